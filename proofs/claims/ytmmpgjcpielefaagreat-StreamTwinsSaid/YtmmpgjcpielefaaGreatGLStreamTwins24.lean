/-
  Contracts of functions of the program, each said of symbolic values, and plain laws; no condition beyond each statement's own.
-/
import Derived.Test.YtmmpgjcpielefaaGreatGLStreamTwins23
set_option linter.unusedSimpArgs false
set_option linter.unusedVariables false
namespace Go.Sym.Z
open Go Go.Proofs.Tryz Go.Sym.Lp Go.Sym.Cha Go.Sym.Sha
set_option maxRecDepth 100000
attribute [local irreducible] xx KC HB zbd wrH wrR bk
def ya1:List (Nat×List PStep):= []
def ybp:List (Nat×List PStep):= []
def z9t:List (Nat×List PStep):= []
theorem zev (v:UInt8):List.take 1 (List.drop (off []) ((List.replicate 1 0).set (off [(0,ty5.sz)]) v))= [v]:=rfl
theorem zb9 {g:Nat→UInt8} {n:Nat} {x:UInt8} (hx:x=g n) (tl t2:List UInt8):List.take n ((List.range n).map g++tl)++ [x]++t2=(List.range (n+1)).map g++t2:=by
  rw [List.take_left' (z7 _ _),List.range_succ,List.map_append,hx];rfl
theorem zb6 (W:List UInt64) (S a j:Nat) (hj:j<S) {k:Nat} (hk:k=a) {I:Int} (hI:I=(S:Int)-1-(j:Int)):(W.getD (off [(k,x3.sz)]) 0>>>UInt64.ofNat (8*I).toNat).toUInt8=Go.Sym.Sha.outG W S (S*a+j):=by
  subst hk hI
  unfold Go.Sym.Sha.outG Go.Sym.Sha.g64
  rw [Nat.mul_add_div (by omega),Nat.div_eq_of_lt hj,Nat.add_zero,Nat.mul_add_mod,Nat.mod_eq_of_lt hj,show (8*((S:Int)-1-(j:Int))).toNat=8*(S-1-j) by omega]
  congr 3
structure Ow (S:Nat) where
  a:Nat
  tl:List UInt8
  ha:1≤a∧a≤8
structure Iw (S:Nat) where
  j:Nat
  tl:List UInt8
  hj:j≤S
def ztk:Spec:=fun args hp K=>match args,hp with
  | [.ptr 0 0 0 []],[.mk t0 [.int m,.arr64 8 H,.arr64 80 k,.nilsl,.u64 all]]=>Pre (H.length=8∧k.length=80∧t0=248) (K (.ptr 1 0 0 []) [.mk t0 [.int m,.arr64 8 H,.arr64 80 k,.nilsl,.u64 all],.mk t0 [.int m,.arr64 8 H,.arr64 80 k,.nilsl,.u64 all]])
  | [.ptr 0 0 0 []],[.mk t0 [.int m,.arr64 8 H,.arr64 80 k,.sl 1 0 0 [] r c,.u64 all],.mk t [.arr8 L l]]=>Pre (H.length=8∧k.length=80∧t0=248∧0<r∧r≤c∧r≤128∧r≤l.length)
      (zag fun tl:List UInt8=>K (.ptr 2 0 0 []) [.mk t0 [.int m,.arr64 8 H,.arr64 80 k,.sl 1 0 0 [] r c,.u64 all],.mk t [.arr8 L l],.mk t0 [.int m,.arr64 8 H,.arr64 80 k,.sl 3 0 0 [] r (r+tl.length),.u64 all],.mk 5 [.arr8 (r+tl.length) (l.take r++tl)]])
  |_,_=>False
set_option maxHeartbeats 4000000 in
theorem zvj:zp prog 173 ztk:=by
  refine zn zaa zl rfl func173 rfl call173 (D:=ya1) ?_ ?_
  ·intro args hp K h
   unfold ztk at h
   split at h
   ·exact Nat.le_of_ble_eq_true rfl
   ·exact Nat.le_of_ble_eq_true rfl
   ·exact h.elim
  ·intro args hp K h
   unfold ztk at h
   split at h
   ·rename_i t0 m H k all
    obtain ⟨⟨hH,hk,hT⟩,h⟩:=zm h
    subst hT
    refine za ?_
    exact zh [0,1] h
   ·rename_i t0 m H k r c all t L l
    obtain ⟨⟨hH,hk,hT,hr0,hr,hr2,hl⟩,h⟩:=zm h
    subst hT
    have htl:(List.take r (List.drop (off []) l)).length=r:=by rw [List.length_take,List.length_drop];show min r (l.length-0)=r;omega
    refine za ?_
    refine yh fun tl=>?_
    have h:=xp h tl
    refine za ?_
    rw [htl]
    conv=>whnf
    exact zh [0,1,2,3] h
   ·exact h.elim
def ztt:Spec:=fun args hp K=>match args,hp with
  | [.ptr 0 0 0 []],[.mk t0 [.int m,.arr64 8 H,.arr64 80 k,.nilsl,.u64 all]]=>Pre (H.length=8∧k.length=80∧t0=248∧(m=256∨m=384)) (K (.str (zdk m k H [] all)) [.mk t0 [.int m,.arr64 8 H,.arr64 80 k,.nilsl,.u64 all]])
  | [.ptr 0 0 0 []],[.mk t0 [.int m,.arr64 8 H,.arr64 80 k,.sl 1 0 0 [] r c,.u64 all],.mk t [.arr8 L l]]=>Pre (H.length=8∧k.length=80∧t0=248∧(m=256∨m=384)∧0<r∧r<bk m∧r≤c∧r≤l.length) (K (.str (zdk m k H (l.take r) all)) [.mk t0 [.int m,.arr64 8 H,.arr64 80 k,.sl 1 0 0 [] r c,.u64 all],.mk t [.arr8 L l]])
  |_,_=>False
set_option maxHeartbeats 8000000 in
theorem zws:zp prog 174 ztt:=by
  refine zn zaa (zd zvj (zd zry (zd zif zl))) rfl func174 rfl call174 (D:=ybp) ?_ ?_
  ·intro args hp K h
   unfold ztt at h
   split at h
   ·exact Nat.le_of_ble_eq_true rfl
   ·exact Nat.le_of_ble_eq_true rfl
   ·exact h.elim
  ·intro args hp K h
   unfold ztt at h
   split at h
   ·rename_i t0 m H k all
    obtain ⟨⟨hH,hk,hT,hm⟩,h⟩:=zm h
    subst hT
    have hpf:H.length=8∧k.length=80∧248=248:=⟨hH,hk,rfl⟩
    rcases hm with hm|hm
    ·have hb:bk m=64:=by unfold bk;rw [if_pos hm]
     refine za ?_
     rw [hb]
     have hq1:(8:Int)≠0∧yn (((64:Nat):Int).tdiv 8):=⟨by decide,by unfold yn;decide⟩
     have hq2:(16:Int)≠0∧yn (((64:Nat):Int).tdiv 16):=⟨by decide,by unfold yn;decide⟩
     have hd8:((64:Nat):Int).tdiv 8=8:=rfl
     have hd16:((64:Nat):Int).tdiv 16=4:=rfl
     have hmd:(2*((64:Nat):Int)-1-((64:Nat):Int).tdiv 8-0).tmod ((64:Nat):Int)=(((119-0)%64:Nat):Int):=by rw [hd8,Int.tmod_eq_emod_of_nonneg (by omega)];omega
     have hft:yn (1+(2*((64:Nat):Int)-1-((64:Nat):Int).tdiv 8-0).tmod ((64:Nat):Int)):=by rw [hmd];unfold yn;omega
     have hPl:1+(2*((64:Nat):Int)-1-((64:Nat):Int).tdiv 8-0).tmod ((64:Nat):Int)+((64:Nat):Int).tdiv 8=((zbt m 0:Nat):Int):=by rw [hmd,hd8];unfold zbt;rw [hb];omega
     have hPb:8+1≤zbt m 0∧zbt m 0≤200:=by unfold zbt;rw [hb];omega
     obtain ⟨Q,hQ⟩: ∃Q,Q=zbt m 0:=⟨_,rfl⟩
     rw [←hQ] at hPl hPb
     have hft2:yn (1+(2*((64:Nat):Int)-1-((64:Nat):Int).tdiv 8-0).tmod ((64:Nat):Int)+((64:Nat):Int).tdiv 8):=by rw [hPl];unfold yn;omega
     refine za ?_
     rw [hPl]
     refine za ?_
     have hPp:zl6 m 0 all=zcf Q all 8:=by unfold zl6;rw [←hQ]
     have hNone:=zgt (n:=m) (R:= []) (by rw [List.length_nil,hb];omega) all
     rw [List.length_nil,hPp] at hNone
     refine zz (Ix (8)) (fun q=>⟨[(0,.ptr 0 0 0 []),(3,.ptr 1 0 0 []),(4,.int 64),(5,.sl 2 0 0 [] Q Q),(39,.int q.i)],[.mk 248 [.int m,.arr64 8 H,.arr64 80 k,.nilsl,.u64 all],.mk 248 [.int m,.arr64 8 H,.arr64 80 k,.nilsl,.u64 all],.mk 5 [.arr8 Q (zcf Q all q.i)]]⟩) (fun q=>(8)-q.i) ⟨0,Nat.zero_le _⟩ [0,1,2] ?_ ?_
     ·exact zu
     ·intro q
      have hi:=q.hi
      have hpl:=zdl Q all q.i
      have hof:off (yb [] ((Q:Int)-1-(q.i:Int)).toNat ty5.sz)=Q-1-q.i:=by rw [zy];show 0+((Q:Int)-1-(q.i:Int)).toNat*1=_;omega
      have hk8:(8*(q.i:Int)).toNat=8*q.i:=by omega
      by_cases h4:q.i<8
      ·refine za ?_
       refine ⟨⟨q.i+1,h4⟩,[0,1,2],by show (8)-(q.i+1)<(8)-q.i;omega,?_⟩
       repeat ((conv=>whnf);refine zb ?_)
       conv=>whnf
       exact zx (congrArg (fun x=>SV.agg [SV.arr8 Q x]) (show _=zcf Q all (q.i+1) by simp only [zcf];rw [hof,hk8];rfl))
      ·have e4:q.i=8:=by omega
       rw [e4] at hpl
       rw [e4]
       clear hi hof hk8 h4 e4 q
       obtain ⟨P,hP⟩: ∃P,P=zcf Q all 8:=⟨_,rfl⟩
       rw [←hP] at hpl hNone hPp
       rw [←hP]
       have hPt:List.take Q (List.drop (off []) P)=P:=List.take_of_length_le (Nat.le_of_eq hpl)
       have hpo:off []+Q≤P.length:=by rw [hpl];show 0+Q≤Q;omega
       skip
       refine za ?_
       rw [hPt]
       repeat ((conv=>whnf);first|refine zo ?_|refine zf ?_|refine zg ?_|refine zb ?_|refine zr (by first|exact decide_eq_true hNone) ?_|refine zi (by first|exact decide_eq_true hNone) ?_|refine zj (by first|exact decide_eq_true hNone) ?_)
       conv=>whnf
       have hWl:=zau (n:=m) (k:=k) hH [] P
       generalize hWd:wrH m k H [] P=W at*
       refine zz (Option (Ow 4)) (fun q=>match q with
         |none=>⟨[(0,.ptr 0 0 0 []),(3,.ptr 1 0 0 []),(7,.nilsl),(8,.int 4),(68,.arr64 8 W),(69,.int 0)],[.mk 248 [.int m,.arr64 8 H,.arr64 80 k,.nilsl,.u64 all],.mk 248 [.int m,.arr64 8 W,.arr64 80 k,.nilsl,.u64 (all+UInt64.ofNat P.length)]]⟩
         |some s=>⟨[(0,.ptr 0 0 0 []),(3,.ptr 1 0 0 []),(7,.sl 2 0 0 [] (4*s.a) (4*s.a+s.tl.length)),(8,.int 4),(68,.arr64 8 W),(69,.int s.a)],[.mk 248 [.int m,.arr64 8 H,.arr64 80 k,.nilsl,.u64 all],.mk 248 [.int m,.arr64 8 W,.arr64 80 k,.nilsl,.u64 (all+UInt64.ofNat P.length)],.mk 5 [.arr8 (4*s.a+s.tl.length) ((List.range (4*s.a)).map (outG W 4)++s.tl)]]⟩)
         (fun q=>match q with|none=>9|some s=>8-s.a) none [0,1] ?_ ?_
       ·exact zu
       ·intro q
        cases q with
        |none=>
         refine za ?_
         refine zz (Option (Iw 4)) (fun v=>match v with
           |none=>⟨[(0,.ptr 0 0 0 []),(3,.ptr 1 0 0 []),(7,.nilsl),(8,.int 4),(10,.u64 (W.getD (off [(Int.toNat 0,x3.sz)]) 0)),(11,.int (4-1)),(68,.arr64 8 W),(69,.int 0)],[.mk 248 [.int m,.arr64 8 H,.arr64 80 k,.nilsl,.u64 all],.mk 248 [.int m,.arr64 8 W,.arr64 80 k,.nilsl,.u64 (all+UInt64.ofNat P.length)]]⟩
           |some v=>⟨[(0,.ptr 0 0 0 []),(3,.ptr 1 0 0 []),(7,.sl 2 0 0 [] v.j (v.j+v.tl.length)),(8,.int 4),(10,.u64 (W.getD (off [(Int.toNat 0,x3.sz)]) 0)),(11,.int ((4:Int)-1-v.j)),(68,.arr64 8 W),(69,.int 0)],[.mk 248 [.int m,.arr64 8 H,.arr64 80 k,.nilsl,.u64 all],.mk 248 [.int m,.arr64 8 W,.arr64 80 k,.nilsl,.u64 (all+UInt64.ofNat P.length)],.mk 5 [.arr8 (v.j+v.tl.length) ((List.range v.j).map (outG W 4)++v.tl)]]⟩)
           (fun v=>match v with|none=>4+1|some v=>4-v.j) none [0,1] ?_ ?_
         ·exact zu
         ·intro v
          cases v with
          |none=>
           refine za ?_
           refine yh fun t1=>?_
           refine za ?_
           rw [zev]
           refine ⟨some ⟨1,t1,by omega⟩,[0,1,3],by show 4-1<4+1;omega,?_⟩
           exact zu
          |some v=>
           have hj':=v.hj
           by_cases hj:v.j<4
           ·refine za ?_
            rw [zev]
            refine zr ⟨by omega,by rw [List.length_append,z7],by show _+1≤_;omega⟩ ?_
            refine za ?_
            refine yh fun t2=>?_
            refine za ?_
            refine ⟨some ⟨v.j+1,t2,by omega⟩,[0,1,4],by show 4-(v.j+1)<4-v.j;omega,?_⟩
            repeat ((conv=>whnf);refine zb ?_)
            conv=>whnf
            refine yc (congrArg (fun x=>SV.agg [SV.arr8 ((v.j+1)+t2.length) x]) (zb9 (g:=outG W 4) (n:=v.j) (by have:=zb6 W 4 0 v.j hj (k:=Int.toNat 0) rfl (I:=4-1-(v.j:Int)) rfl;rwa [Nat.mul_zero,Nat.zero_add] at this) _ _)) ?_
            repeat ((conv=>whnf);refine zb ?_)
            conv=>whnf
            exact zx (congrArg SV.int (show (4:Int)-1-(v.j:Int)-1=4-1-((v.j+1:Nat):Int) by omega))
           ·have ej:v.j=4:=by omega
            refine za ?_
            refine ⟨some ⟨0+1,v.tl,by omega⟩,[0,1,2],by show 8-(0+1)<9;omega,?_⟩
            rw [ej]
            exact zu
        |some s=>
         have ha:=s.ha
         by_cases h8:s.a<8
         ·refine za ?_
          refine zz (Iw 4) (fun v=>⟨[(0,.ptr 0 0 0 []),(3,.ptr 1 0 0 []),(7,.sl 2 0 0 [] (4*s.a+v.j) ((4*s.a+v.j)+v.tl.length)),(8,.int 4),(10,.u64 (W.getD (off [((s.a:Int).toNat,x3.sz)]) 0)),(11,.int ((4:Int)-1-v.j)),(68,.arr64 8 W),(69,.int (s.a:Int))],[.mk 248 [.int m,.arr64 8 H,.arr64 80 k,.nilsl,.u64 all],.mk 248 [.int m,.arr64 8 W,.arr64 80 k,.nilsl,.u64 (all+UInt64.ofNat P.length)],.mk 5 [.arr8 ((4*s.a+v.j)+v.tl.length) ((List.range (4*s.a+v.j)).map (outG W 4)++v.tl)]]⟩) (fun v=>4-v.j) ⟨0,s.tl,Nat.zero_le _⟩ [0,1,2] ?_ ?_
          ·exact zu
          ·intro v
           have hj':=v.hj
           by_cases hj:v.j<4
           ·refine za ?_
            rw [zev]
            refine zr ⟨by omega,by rw [List.length_append,z7],by show _+1≤_;omega⟩ ?_
            refine za ?_
            refine yh fun t2=>?_
            refine za ?_
            refine ⟨⟨v.j+1,t2,by omega⟩,[0,1,4],by show 4-(v.j+1)<4-v.j;omega,?_⟩
            repeat ((conv=>whnf);refine zb ?_)
            conv=>whnf
            refine yc (congrArg (fun x=>SV.agg [SV.arr8 ((4*s.a+(v.j+1))+t2.length) x]) (zb9 (g:=outG W 4) (n:=(4*s.a+v.j)) (zb6 W 4 s.a v.j hj (Int.toNat_natCast _) rfl) _ _)) ?_
            repeat ((conv=>whnf);refine zb ?_)
            conv=>whnf
            exact zx (congrArg SV.int (show (4:Int)-1-(v.j:Int)-1=4-1-((v.j+1:Nat):Int) by omega))
           ·have ej:v.j=4:=by omega
            refine za ?_
            refine ⟨some ⟨s.a+1,v.tl,by omega⟩,[0,1,2],by show 8-(s.a+1)<8-s.a;omega,?_⟩
            rw [ej]
            exact zu
         ·have e8:s.a=8:=by omega
          have h8m:(8:Int)≠0∧yn (m.tdiv 8):=by rw [hm];exact ⟨by decide,by unfold yn;decide⟩
          have hd8m:m.tdiv 8=32:=by rw [hm];rfl
          refine za ?_
          rw [e8,hd8m]
          have hOl:=zfw W 4
          have hO:(List.range (4*8)).map (outG W 4)=zh0 W 4:=by unfold zh0;rfl
          have hpo:off []+Int.toNat 32≤((List.range (4*8)).map (outG W 4)++s.tl).length:=by rw [List.length_append,z7];show 0+32≤_;omega
          have hsm:zdk m k H [] all=List.take (Int.toNat 32) (List.drop (off []) ((List.range (4*8)).map (outG W 4)++s.tl)):=by
            unfold zdk
            rw [List.length_nil,hPp,hWd,hb,hO,show (m/ 8).toNat=32 by rw [hm];rfl]
            show _=List.take 32 (zh0 W 4++s.tl)
            rw [List.take_append_of_le_length (by rw [hOl];decide)]
          rw [hsm] at h
          refine za ?_
          exact zh [0] h
    ·have hb:bk m=128:=by unfold bk;rw [if_neg (by omega)]
     refine za ?_
     rw [hb]
     have hq1:(8:Int)≠0∧yn (((128:Nat):Int).tdiv 8):=⟨by decide,by unfold yn;decide⟩
     have hq2:(16:Int)≠0∧yn (((128:Nat):Int).tdiv 16):=⟨by decide,by unfold yn;decide⟩
     have hd8:((128:Nat):Int).tdiv 8=16:=rfl
     have hd16:((128:Nat):Int).tdiv 16=8:=rfl
     have hmd:(2*((128:Nat):Int)-1-((128:Nat):Int).tdiv 8-0).tmod ((128:Nat):Int)=(((239-0)%128:Nat):Int):=by rw [hd8,Int.tmod_eq_emod_of_nonneg (by omega)];omega
     have hft:yn (1+(2*((128:Nat):Int)-1-((128:Nat):Int).tdiv 8-0).tmod ((128:Nat):Int)):=by rw [hmd];unfold yn;omega
     have hPl:1+(2*((128:Nat):Int)-1-((128:Nat):Int).tdiv 8-0).tmod ((128:Nat):Int)+((128:Nat):Int).tdiv 8=((zbt m 0:Nat):Int):=by rw [hmd,hd8];unfold zbt;rw [hb];omega
     have hPb:16+1≤zbt m 0∧zbt m 0≤200:=by unfold zbt;rw [hb];omega
     obtain ⟨Q,hQ⟩: ∃Q,Q=zbt m 0:=⟨_,rfl⟩
     rw [←hQ] at hPl hPb
     have hft2:yn (1+(2*((128:Nat):Int)-1-((128:Nat):Int).tdiv 8-0).tmod ((128:Nat):Int)+((128:Nat):Int).tdiv 8):=by rw [hPl];unfold yn;omega
     refine za ?_
     rw [hPl]
     refine za ?_
     have hPp:zl6 m 0 all=zcf Q all 8:=by unfold zl6;rw [←hQ]
     have hNone:=zgt (n:=m) (R:= []) (by rw [List.length_nil,hb];omega) all
     rw [List.length_nil,hPp] at hNone
     refine zz (Ix (8)) (fun q=>⟨[(0,.ptr 0 0 0 []),(3,.ptr 1 0 0 []),(4,.int 128),(5,.sl 2 0 0 [] Q Q),(39,.int q.i)],[.mk 248 [.int m,.arr64 8 H,.arr64 80 k,.nilsl,.u64 all],.mk 248 [.int m,.arr64 8 H,.arr64 80 k,.nilsl,.u64 all],.mk 5 [.arr8 Q (zcf Q all q.i)]]⟩) (fun q=>(8)-q.i) ⟨0,Nat.zero_le _⟩ [0,1,2] ?_ ?_
     ·exact zu
     ·intro q
      have hi:=q.hi
      have hpl:=zdl Q all q.i
      have hof:off (yb [] ((Q:Int)-1-(q.i:Int)).toNat ty5.sz)=Q-1-q.i:=by rw [zy];show 0+((Q:Int)-1-(q.i:Int)).toNat*1=_;omega
      have hk8:(8*(q.i:Int)).toNat=8*q.i:=by omega
      by_cases h4:q.i<8
      ·refine za ?_
       refine ⟨⟨q.i+1,h4⟩,[0,1,2],by show (8)-(q.i+1)<(8)-q.i;omega,?_⟩
       repeat ((conv=>whnf);refine zb ?_)
       conv=>whnf
       exact zx (congrArg (fun x=>SV.agg [SV.arr8 Q x]) (show _=zcf Q all (q.i+1) by simp only [zcf];rw [hof,hk8];rfl))
      ·have e4:q.i=8:=by omega
       rw [e4] at hpl
       rw [e4]
       clear hi hof hk8 h4 e4 q
       obtain ⟨P,hP⟩: ∃P,P=zcf Q all 8:=⟨_,rfl⟩
       rw [←hP] at hpl hNone hPp
       rw [←hP]
       have hPt:List.take Q (List.drop (off []) P)=P:=List.take_of_length_le (Nat.le_of_eq hpl)
       have hpo:off []+Q≤P.length:=by rw [hpl];show 0+Q≤Q;omega
       skip
       refine za ?_
       rw [hPt]
       repeat ((conv=>whnf);first|refine zo ?_|refine zf ?_|refine zg ?_|refine zb ?_|refine zr (by first|exact decide_eq_true hNone) ?_|refine zi (by first|exact decide_eq_true hNone) ?_|refine zj (by first|exact decide_eq_true hNone) ?_)
       conv=>whnf
       have hWl:=zau (n:=m) (k:=k) hH [] P
       generalize hWd:wrH m k H [] P=W at*
       refine zz (Option (Ow 8)) (fun q=>match q with
         |none=>⟨[(0,.ptr 0 0 0 []),(3,.ptr 1 0 0 []),(7,.nilsl),(8,.int 8),(68,.arr64 8 W),(69,.int 0)],[.mk 248 [.int m,.arr64 8 H,.arr64 80 k,.nilsl,.u64 all],.mk 248 [.int m,.arr64 8 W,.arr64 80 k,.nilsl,.u64 (all+UInt64.ofNat P.length)]]⟩
         |some s=>⟨[(0,.ptr 0 0 0 []),(3,.ptr 1 0 0 []),(7,.sl 2 0 0 [] (8*s.a) (8*s.a+s.tl.length)),(8,.int 8),(68,.arr64 8 W),(69,.int s.a)],[.mk 248 [.int m,.arr64 8 H,.arr64 80 k,.nilsl,.u64 all],.mk 248 [.int m,.arr64 8 W,.arr64 80 k,.nilsl,.u64 (all+UInt64.ofNat P.length)],.mk 5 [.arr8 (8*s.a+s.tl.length) ((List.range (8*s.a)).map (outG W 8)++s.tl)]]⟩)
         (fun q=>match q with|none=>9|some s=>8-s.a) none [0,1] ?_ ?_
       ·exact zu
       ·intro q
        cases q with
        |none=>
         refine za ?_
         refine zz (Option (Iw 8)) (fun v=>match v with
           |none=>⟨[(0,.ptr 0 0 0 []),(3,.ptr 1 0 0 []),(7,.nilsl),(8,.int 8),(10,.u64 (W.getD (off [(Int.toNat 0,x3.sz)]) 0)),(11,.int (8-1)),(68,.arr64 8 W),(69,.int 0)],[.mk 248 [.int m,.arr64 8 H,.arr64 80 k,.nilsl,.u64 all],.mk 248 [.int m,.arr64 8 W,.arr64 80 k,.nilsl,.u64 (all+UInt64.ofNat P.length)]]⟩
           |some v=>⟨[(0,.ptr 0 0 0 []),(3,.ptr 1 0 0 []),(7,.sl 2 0 0 [] v.j (v.j+v.tl.length)),(8,.int 8),(10,.u64 (W.getD (off [(Int.toNat 0,x3.sz)]) 0)),(11,.int ((8:Int)-1-v.j)),(68,.arr64 8 W),(69,.int 0)],[.mk 248 [.int m,.arr64 8 H,.arr64 80 k,.nilsl,.u64 all],.mk 248 [.int m,.arr64 8 W,.arr64 80 k,.nilsl,.u64 (all+UInt64.ofNat P.length)],.mk 5 [.arr8 (v.j+v.tl.length) ((List.range v.j).map (outG W 8)++v.tl)]]⟩)
           (fun v=>match v with|none=>8+1|some v=>8-v.j) none [0,1] ?_ ?_
         ·exact zu
         ·intro v
          cases v with
          |none=>
           refine za ?_
           refine yh fun t1=>?_
           refine za ?_
           rw [zev]
           refine ⟨some ⟨1,t1,by omega⟩,[0,1,3],by show 8-1<8+1;omega,?_⟩
           exact zu
          |some v=>
           have hj':=v.hj
           by_cases hj:v.j<8
           ·refine za ?_
            rw [zev]
            refine zr ⟨by omega,by rw [List.length_append,z7],by show _+1≤_;omega⟩ ?_
            refine za ?_
            refine yh fun t2=>?_
            refine za ?_
            refine ⟨some ⟨v.j+1,t2,by omega⟩,[0,1,4],by show 8-(v.j+1)<8-v.j;omega,?_⟩
            repeat ((conv=>whnf);refine zb ?_)
            conv=>whnf
            refine yc (congrArg (fun x=>SV.agg [SV.arr8 ((v.j+1)+t2.length) x]) (zb9 (g:=outG W 8) (n:=v.j) (by have:=zb6 W 8 0 v.j hj (k:=Int.toNat 0) rfl (I:=8-1-(v.j:Int)) rfl;rwa [Nat.mul_zero,Nat.zero_add] at this) _ _)) ?_
            repeat ((conv=>whnf);refine zb ?_)
            conv=>whnf
            exact zx (congrArg SV.int (show (8:Int)-1-(v.j:Int)-1=8-1-((v.j+1:Nat):Int) by omega))
           ·have ej:v.j=8:=by omega
            refine za ?_
            refine ⟨some ⟨0+1,v.tl,by omega⟩,[0,1,2],by show 8-(0+1)<9;omega,?_⟩
            rw [ej]
            exact zu
        |some s=>
         have ha:=s.ha
         by_cases h8:s.a<8
         ·refine za ?_
          refine zz (Iw 8) (fun v=>⟨[(0,.ptr 0 0 0 []),(3,.ptr 1 0 0 []),(7,.sl 2 0 0 [] (8*s.a+v.j) ((8*s.a+v.j)+v.tl.length)),(8,.int 8),(10,.u64 (W.getD (off [((s.a:Int).toNat,x3.sz)]) 0)),(11,.int ((8:Int)-1-v.j)),(68,.arr64 8 W),(69,.int (s.a:Int))],[.mk 248 [.int m,.arr64 8 H,.arr64 80 k,.nilsl,.u64 all],.mk 248 [.int m,.arr64 8 W,.arr64 80 k,.nilsl,.u64 (all+UInt64.ofNat P.length)],.mk 5 [.arr8 ((8*s.a+v.j)+v.tl.length) ((List.range (8*s.a+v.j)).map (outG W 8)++v.tl)]]⟩) (fun v=>8-v.j) ⟨0,s.tl,Nat.zero_le _⟩ [0,1,2] ?_ ?_
          ·exact zu
          ·intro v
           have hj':=v.hj
           by_cases hj:v.j<8
           ·refine za ?_
            rw [zev]
            refine zr ⟨by omega,by rw [List.length_append,z7],by show _+1≤_;omega⟩ ?_
            refine za ?_
            refine yh fun t2=>?_
            refine za ?_
            refine ⟨⟨v.j+1,t2,by omega⟩,[0,1,4],by show 8-(v.j+1)<8-v.j;omega,?_⟩
            repeat ((conv=>whnf);refine zb ?_)
            conv=>whnf
            refine yc (congrArg (fun x=>SV.agg [SV.arr8 ((8*s.a+(v.j+1))+t2.length) x]) (zb9 (g:=outG W 8) (n:=(8*s.a+v.j)) (zb6 W 8 s.a v.j hj (Int.toNat_natCast _) rfl) _ _)) ?_
            repeat ((conv=>whnf);refine zb ?_)
            conv=>whnf
            exact zx (congrArg SV.int (show (8:Int)-1-(v.j:Int)-1=8-1-((v.j+1:Nat):Int) by omega))
           ·have ej:v.j=8:=by omega
            refine za ?_
            refine ⟨some ⟨s.a+1,v.tl,by omega⟩,[0,1,2],by show 8-(s.a+1)<8-s.a;omega,?_⟩
            rw [ej]
            exact zu
         ·have e8:s.a=8:=by omega
          have h8m:(8:Int)≠0∧yn (m.tdiv 8):=by rw [hm];exact ⟨by decide,by unfold yn;decide⟩
          have hd8m:m.tdiv 8=48:=by rw [hm];rfl
          refine za ?_
          rw [e8,hd8m]
          have hOl:=zfw W 8
          have hO:(List.range (8*8)).map (outG W 8)=zh0 W 8:=by unfold zh0;rfl
          have hpo:off []+Int.toNat 48≤((List.range (8*8)).map (outG W 8)++s.tl).length:=by rw [List.length_append,z7];show 0+48≤_;omega
          have hsm:zdk m k H [] all=List.take (Int.toNat 48) (List.drop (off []) ((List.range (8*8)).map (outG W 8)++s.tl)):=by
            unfold zdk
            rw [List.length_nil,hPp,hWd,hb,hO,show (m/ 8).toNat=48 by rw [hm];rfl]
            show _=List.take 48 (zh0 W 8++s.tl)
            rw [List.take_append_of_le_length (by rw [hOl];decide)]
          rw [hsm] at h
          refine za ?_
          exact zh [0] h
   ·rename_i t0 m H k r c all t L l
    obtain ⟨⟨hH,hk,hT,hm,hr0,hrb,hr,hl⟩,h⟩:=zm h
    subst hT
    have hb:bk m=64∨bk m=128:=by unfold bk;split<;>simp
    have hpf:H.length=8∧k.length=80∧248=248∧0<r∧r≤c∧r≤128∧r≤l.length:=⟨hH,hk,rfl,hr0,hr,by omega,hl⟩
    clear hb
    rcases hm with hm|hm
    ·have hb:bk m=64:=by unfold bk;rw [if_pos hm]
     refine za ?_
     refine yh fun tl=>?_
     refine za ?_
     rw [hb]
     have hq1:(8:Int)≠0∧yn (((64:Nat):Int).tdiv 8):=⟨by decide,by unfold yn;decide⟩
     have hq2:(16:Int)≠0∧yn (((64:Nat):Int).tdiv 16):=⟨by decide,by unfold yn;decide⟩
     have hd8:((64:Nat):Int).tdiv 8=8:=rfl
     have hd16:((64:Nat):Int).tdiv 16=4:=rfl
     have hmd:(2*((64:Nat):Int)-1-((64:Nat):Int).tdiv 8-(r:Int)).tmod ((64:Nat):Int)=(((119-r)%64:Nat):Int):=by rw [hd8,Int.tmod_eq_emod_of_nonneg (by omega)];omega
     have hft:yn (1+(2*((64:Nat):Int)-1-((64:Nat):Int).tdiv 8-(r:Int)).tmod ((64:Nat):Int)):=by rw [hmd];unfold yn;omega
     have hPl:1+(2*((64:Nat):Int)-1-((64:Nat):Int).tdiv 8-(r:Int)).tmod ((64:Nat):Int)+((64:Nat):Int).tdiv 8=((zbt m r:Nat):Int):=by rw [hmd,hd8];unfold zbt;rw [hb];omega
     have hPb:8+1≤zbt m r∧zbt m r≤200:=by unfold zbt;rw [hb];omega
     obtain ⟨Q,hQ⟩: ∃Q,Q=zbt m r:=⟨_,rfl⟩
     rw [←hQ] at hPl hPb
     have hft2:yn (1+(2*((64:Nat):Int)-1-((64:Nat):Int).tdiv 8-(r:Int)).tmod ((64:Nat):Int)+((64:Nat):Int).tdiv 8):=by rw [hPl];unfold yn;omega
     refine za ?_
     rw [hPl]
     refine za ?_
     have hPp:zl6 m r all=zcf Q all 8:=by unfold zl6;rw [←hQ]
     have hNone:=zgt (n:=m) (R:=(l.take r)) (by rw [show (l.take r).length=r by rw [List.length_take];omega,hb];omega) all
     rw [show (l.take r).length=r by rw [List.length_take];omega,hPp] at hNone
     refine zz (Ix (8)) (fun q=>⟨[(0,.ptr 0 0 0 []),(3,.ptr 2 0 0 []),(4,.int 64),(5,.sl 4 0 0 [] Q Q),(39,.int q.i)],[.mk 248 [.int m,.arr64 8 H,.arr64 80 k,.sl 1 0 0 [] r c,.u64 all],.mk t [.arr8 L l],.mk 248 [.int m,.arr64 8 H,.arr64 80 k,.sl 3 0 0 [] r (r+tl.length),.u64 all],.mk 5 [.arr8 (r+tl.length) (l.take r++tl)],.mk 5 [.arr8 Q (zcf Q all q.i)]]⟩) (fun q=>(8)-q.i) ⟨0,Nat.zero_le _⟩ [0,1,2,3,4] ?_ ?_
     ·exact zu
     ·intro q
      have hi:=q.hi
      have hpl:=zdl Q all q.i
      have hof:off (yb [] ((Q:Int)-1-(q.i:Int)).toNat ty5.sz)=Q-1-q.i:=by rw [zy];show 0+((Q:Int)-1-(q.i:Int)).toNat*1=_;omega
      have hk8:(8*(q.i:Int)).toNat=8*q.i:=by omega
      by_cases h4:q.i<8
      ·refine za ?_
       refine ⟨⟨q.i+1,h4⟩,[0,1,2,3,4],by show (8)-(q.i+1)<(8)-q.i;omega,?_⟩
       repeat ((conv=>whnf);refine zb ?_)
       conv=>whnf
       exact zx (congrArg (fun x=>SV.agg [SV.arr8 Q x]) (show _=zcf Q all (q.i+1) by simp only [zcf];rw [hof,hk8];rfl))
      ·have e4:q.i=8:=by omega
       rw [e4] at hpl
       rw [e4]
       clear hi hof hk8 h4 e4 q
       obtain ⟨P,hP⟩: ∃P,P=zcf Q all 8:=⟨_,rfl⟩
       rw [←hP] at hpl hNone hPp
       rw [←hP]
       have hPt:List.take Q (List.drop (off []) P)=P:=List.take_of_length_le (Nat.le_of_eq hpl)
       have hpo:off []+Q≤P.length:=by rw [hpl];show 0+Q≤Q;omega
       have hll:(List.take r l++tl).length=r+tl.length:=by rw [List.length_append,List.length_take];omega
       have htt:List.take r (List.take r l++tl)=List.take r l:=List.take_left' (by rw [List.length_take];omega)
       rw [←htt] at hNone
       have hpw:H.length=8∧k.length=80∧P.length≤140737488351232∧0<r∧r≤r+tl.length∧r≤128∧r+tl.length=(List.take r l++tl).length∧r+tl.length=r+tl.length:=⟨hH,hk,by omega,hr0,by omega,by omega,hll.symm,rfl⟩
       refine za ?_
       rw [hPt]
       repeat ((conv=>whnf);first|refine zo ?_|refine zf ?_|refine zg ?_|refine zb ?_|refine zr (by first|exact decide_eq_true hNone) ?_|refine zi (by first|exact decide_eq_true hNone) ?_|refine zj (by first|exact decide_eq_true hNone) ?_)
       conv=>whnf
       have hWl:=zau (n:=m) (k:=k) hH (List.take r (List.take r l++tl)) P
       generalize hWd:wrH m k H (List.take r (List.take r l++tl)) P=W at*
       refine zz (Option (Ow 4)) (fun q=>match q with
         |none=>⟨[(0,.ptr 0 0 0 []),(3,.ptr 2 0 0 []),(7,.nilsl),(8,.int 4),(68,.arr64 8 W),(69,.int 0)],[.mk 248 [.int m,.arr64 8 H,.arr64 80 k,.sl 1 0 0 [] r c,.u64 all],.mk t [.arr8 L l],.mk 248 [.int m,.arr64 8 W,.arr64 80 k,.nilsl,.u64 (all+UInt64.ofNat P.length)]]⟩
         |some s=>⟨[(0,.ptr 0 0 0 []),(3,.ptr 2 0 0 []),(7,.sl 3 0 0 [] (4*s.a) (4*s.a+s.tl.length)),(8,.int 4),(68,.arr64 8 W),(69,.int s.a)],[.mk 248 [.int m,.arr64 8 H,.arr64 80 k,.sl 1 0 0 [] r c,.u64 all],.mk t [.arr8 L l],.mk 248 [.int m,.arr64 8 W,.arr64 80 k,.nilsl,.u64 (all+UInt64.ofNat P.length)],.mk 5 [.arr8 (4*s.a+s.tl.length) ((List.range (4*s.a)).map (outG W 4)++s.tl)]]⟩)
         (fun q=>match q with|none=>9|some s=>8-s.a) none [0,1,2] ?_ ?_
       ·exact zu
       ·intro q
        cases q with
        |none=>
         refine za ?_
         refine zz (Option (Iw 4)) (fun v=>match v with
           |none=>⟨[(0,.ptr 0 0 0 []),(3,.ptr 2 0 0 []),(7,.nilsl),(8,.int 4),(10,.u64 (W.getD (off [(Int.toNat 0,x3.sz)]) 0)),(11,.int (4-1)),(68,.arr64 8 W),(69,.int 0)],[.mk 248 [.int m,.arr64 8 H,.arr64 80 k,.sl 1 0 0 [] r c,.u64 all],.mk t [.arr8 L l],.mk 248 [.int m,.arr64 8 W,.arr64 80 k,.nilsl,.u64 (all+UInt64.ofNat P.length)]]⟩
           |some v=>⟨[(0,.ptr 0 0 0 []),(3,.ptr 2 0 0 []),(7,.sl 3 0 0 [] v.j (v.j+v.tl.length)),(8,.int 4),(10,.u64 (W.getD (off [(Int.toNat 0,x3.sz)]) 0)),(11,.int ((4:Int)-1-v.j)),(68,.arr64 8 W),(69,.int 0)],[.mk 248 [.int m,.arr64 8 H,.arr64 80 k,.sl 1 0 0 [] r c,.u64 all],.mk t [.arr8 L l],.mk 248 [.int m,.arr64 8 W,.arr64 80 k,.nilsl,.u64 (all+UInt64.ofNat P.length)],.mk 5 [.arr8 (v.j+v.tl.length) ((List.range v.j).map (outG W 4)++v.tl)]]⟩)
           (fun v=>match v with|none=>4+1|some v=>4-v.j) none [0,1,2] ?_ ?_
         ·exact zu
         ·intro v
          cases v with
          |none=>
           refine za ?_
           refine yh fun t1=>?_
           refine za ?_
           rw [zev]
           refine ⟨some ⟨1,t1,by omega⟩,[0,1,2,4],by show 4-1<4+1;omega,?_⟩
           exact zu
          |some v=>
           have hj':=v.hj
           by_cases hj:v.j<4
           ·refine za ?_
            rw [zev]
            refine zr ⟨by omega,by rw [List.length_append,z7],by show _+1≤_;omega⟩ ?_
            refine za ?_
            refine yh fun t2=>?_
            refine za ?_
            refine ⟨some ⟨v.j+1,t2,by omega⟩,[0,1,2,5],by show 4-(v.j+1)<4-v.j;omega,?_⟩
            repeat ((conv=>whnf);refine zb ?_)
            conv=>whnf
            refine yc (congrArg (fun x=>SV.agg [SV.arr8 ((v.j+1)+t2.length) x]) (zb9 (g:=outG W 4) (n:=v.j) (by have:=zb6 W 4 0 v.j hj (k:=Int.toNat 0) rfl (I:=4-1-(v.j:Int)) rfl;rwa [Nat.mul_zero,Nat.zero_add] at this) _ _)) ?_
            repeat ((conv=>whnf);refine zb ?_)
            conv=>whnf
            exact zx (congrArg SV.int (show (4:Int)-1-(v.j:Int)-1=4-1-((v.j+1:Nat):Int) by omega))
           ·have ej:v.j=4:=by omega
            refine za ?_
            refine ⟨some ⟨0+1,v.tl,by omega⟩,[0,1,2,3],by show 8-(0+1)<9;omega,?_⟩
            rw [ej]
            exact zu
        |some s=>
         have ha:=s.ha
         by_cases h8:s.a<8
         ·refine za ?_
          refine zz (Iw 4) (fun v=>⟨[(0,.ptr 0 0 0 []),(3,.ptr 2 0 0 []),(7,.sl 3 0 0 [] (4*s.a+v.j) ((4*s.a+v.j)+v.tl.length)),(8,.int 4),(10,.u64 (W.getD (off [((s.a:Int).toNat,x3.sz)]) 0)),(11,.int ((4:Int)-1-v.j)),(68,.arr64 8 W),(69,.int (s.a:Int))],[.mk 248 [.int m,.arr64 8 H,.arr64 80 k,.sl 1 0 0 [] r c,.u64 all],.mk t [.arr8 L l],.mk 248 [.int m,.arr64 8 W,.arr64 80 k,.nilsl,.u64 (all+UInt64.ofNat P.length)],.mk 5 [.arr8 ((4*s.a+v.j)+v.tl.length) ((List.range (4*s.a+v.j)).map (outG W 4)++v.tl)]]⟩) (fun v=>4-v.j) ⟨0,s.tl,Nat.zero_le _⟩ [0,1,2,3] ?_ ?_
          ·exact zu
          ·intro v
           have hj':=v.hj
           by_cases hj:v.j<4
           ·refine za ?_
            rw [zev]
            refine zr ⟨by omega,by rw [List.length_append,z7],by show _+1≤_;omega⟩ ?_
            refine za ?_
            refine yh fun t2=>?_
            refine za ?_
            refine ⟨⟨v.j+1,t2,by omega⟩,[0,1,2,5],by show 4-(v.j+1)<4-v.j;omega,?_⟩
            repeat ((conv=>whnf);refine zb ?_)
            conv=>whnf
            refine yc (congrArg (fun x=>SV.agg [SV.arr8 ((4*s.a+(v.j+1))+t2.length) x]) (zb9 (g:=outG W 4) (n:=(4*s.a+v.j)) (zb6 W 4 s.a v.j hj (Int.toNat_natCast _) rfl) _ _)) ?_
            repeat ((conv=>whnf);refine zb ?_)
            conv=>whnf
            exact zx (congrArg SV.int (show (4:Int)-1-(v.j:Int)-1=4-1-((v.j+1:Nat):Int) by omega))
           ·have ej:v.j=4:=by omega
            refine za ?_
            refine ⟨some ⟨s.a+1,v.tl,by omega⟩,[0,1,2,3],by show 8-(s.a+1)<8-s.a;omega,?_⟩
            rw [ej]
            exact zu
         ·have e8:s.a=8:=by omega
          have h8m:(8:Int)≠0∧yn (m.tdiv 8):=by rw [hm];exact ⟨by decide,by unfold yn;decide⟩
          have hd8m:m.tdiv 8=32:=by rw [hm];rfl
          refine za ?_
          rw [e8,hd8m]
          have hOl:=zfw W 4
          have hO:(List.range (4*8)).map (outG W 4)=zh0 W 4:=by unfold zh0;rfl
          have hpo:off []+Int.toNat 32≤((List.range (4*8)).map (outG W 4)++s.tl).length:=by rw [List.length_append,z7];show 0+32≤_;omega
          have hsm:zdk m k H (l.take r) all=List.take (Int.toNat 32) (List.drop (off []) ((List.range (4*8)).map (outG W 4)++s.tl)):=by
            unfold zdk
            rw [show (l.take r).length=r by rw [List.length_take];omega,hPp,←htt,hWd,hb,hO,show (m/ 8).toNat=32 by rw [hm];rfl]
            show _=List.take 32 (zh0 W 4++s.tl)
            rw [List.take_append_of_le_length (by rw [hOl];decide)]
          rw [hsm] at h
          refine za ?_
          exact zh [0,1] h
    ·have hb:bk m=128:=by unfold bk;rw [if_neg (by omega)]
     refine za ?_
     refine yh fun tl=>?_
     refine za ?_
     rw [hb]
     have hq1:(8:Int)≠0∧yn (((128:Nat):Int).tdiv 8):=⟨by decide,by unfold yn;decide⟩
     have hq2:(16:Int)≠0∧yn (((128:Nat):Int).tdiv 16):=⟨by decide,by unfold yn;decide⟩
     have hd8:((128:Nat):Int).tdiv 8=16:=rfl
     have hd16:((128:Nat):Int).tdiv 16=8:=rfl
     have hmd:(2*((128:Nat):Int)-1-((128:Nat):Int).tdiv 8-(r:Int)).tmod ((128:Nat):Int)=(((239-r)%128:Nat):Int):=by rw [hd8,Int.tmod_eq_emod_of_nonneg (by omega)];omega
     have hft:yn (1+(2*((128:Nat):Int)-1-((128:Nat):Int).tdiv 8-(r:Int)).tmod ((128:Nat):Int)):=by rw [hmd];unfold yn;omega
     have hPl:1+(2*((128:Nat):Int)-1-((128:Nat):Int).tdiv 8-(r:Int)).tmod ((128:Nat):Int)+((128:Nat):Int).tdiv 8=((zbt m r:Nat):Int):=by rw [hmd,hd8];unfold zbt;rw [hb];omega
     have hPb:16+1≤zbt m r∧zbt m r≤200:=by unfold zbt;rw [hb];omega
     obtain ⟨Q,hQ⟩: ∃Q,Q=zbt m r:=⟨_,rfl⟩
     rw [←hQ] at hPl hPb
     have hft2:yn (1+(2*((128:Nat):Int)-1-((128:Nat):Int).tdiv 8-(r:Int)).tmod ((128:Nat):Int)+((128:Nat):Int).tdiv 8):=by rw [hPl];unfold yn;omega
     refine za ?_
     rw [hPl]
     refine za ?_
     have hPp:zl6 m r all=zcf Q all 8:=by unfold zl6;rw [←hQ]
     have hNone:=zgt (n:=m) (R:=(l.take r)) (by rw [show (l.take r).length=r by rw [List.length_take];omega,hb];omega) all
     rw [show (l.take r).length=r by rw [List.length_take];omega,hPp] at hNone
     refine zz (Ix (8)) (fun q=>⟨[(0,.ptr 0 0 0 []),(3,.ptr 2 0 0 []),(4,.int 128),(5,.sl 4 0 0 [] Q Q),(39,.int q.i)],[.mk 248 [.int m,.arr64 8 H,.arr64 80 k,.sl 1 0 0 [] r c,.u64 all],.mk t [.arr8 L l],.mk 248 [.int m,.arr64 8 H,.arr64 80 k,.sl 3 0 0 [] r (r+tl.length),.u64 all],.mk 5 [.arr8 (r+tl.length) (l.take r++tl)],.mk 5 [.arr8 Q (zcf Q all q.i)]]⟩) (fun q=>(8)-q.i) ⟨0,Nat.zero_le _⟩ [0,1,2,3,4] ?_ ?_
     ·exact zu
     ·intro q
      have hi:=q.hi
      have hpl:=zdl Q all q.i
      have hof:off (yb [] ((Q:Int)-1-(q.i:Int)).toNat ty5.sz)=Q-1-q.i:=by rw [zy];show 0+((Q:Int)-1-(q.i:Int)).toNat*1=_;omega
      have hk8:(8*(q.i:Int)).toNat=8*q.i:=by omega
      by_cases h4:q.i<8
      ·refine za ?_
       refine ⟨⟨q.i+1,h4⟩,[0,1,2,3,4],by show (8)-(q.i+1)<(8)-q.i;omega,?_⟩
       repeat ((conv=>whnf);refine zb ?_)
       conv=>whnf
       exact zx (congrArg (fun x=>SV.agg [SV.arr8 Q x]) (show _=zcf Q all (q.i+1) by simp only [zcf];rw [hof,hk8];rfl))
      ·have e4:q.i=8:=by omega
       rw [e4] at hpl
       rw [e4]
       clear hi hof hk8 h4 e4 q
       obtain ⟨P,hP⟩: ∃P,P=zcf Q all 8:=⟨_,rfl⟩
       rw [←hP] at hpl hNone hPp
       rw [←hP]
       have hPt:List.take Q (List.drop (off []) P)=P:=List.take_of_length_le (Nat.le_of_eq hpl)
       have hpo:off []+Q≤P.length:=by rw [hpl];show 0+Q≤Q;omega
       have hll:(List.take r l++tl).length=r+tl.length:=by rw [List.length_append,List.length_take];omega
       have htt:List.take r (List.take r l++tl)=List.take r l:=List.take_left' (by rw [List.length_take];omega)
       rw [←htt] at hNone
       have hpw:H.length=8∧k.length=80∧P.length≤140737488351232∧0<r∧r≤r+tl.length∧r≤128∧r+tl.length=(List.take r l++tl).length∧r+tl.length=r+tl.length:=⟨hH,hk,by omega,hr0,by omega,by omega,hll.symm,rfl⟩
       refine za ?_
       rw [hPt]
       repeat ((conv=>whnf);first|refine zo ?_|refine zf ?_|refine zg ?_|refine zb ?_|refine zr (by first|exact decide_eq_true hNone) ?_|refine zi (by first|exact decide_eq_true hNone) ?_|refine zj (by first|exact decide_eq_true hNone) ?_)
       conv=>whnf
       have hWl:=zau (n:=m) (k:=k) hH (List.take r (List.take r l++tl)) P
       generalize hWd:wrH m k H (List.take r (List.take r l++tl)) P=W at*
       refine zz (Option (Ow 8)) (fun q=>match q with
         |none=>⟨[(0,.ptr 0 0 0 []),(3,.ptr 2 0 0 []),(7,.nilsl),(8,.int 8),(68,.arr64 8 W),(69,.int 0)],[.mk 248 [.int m,.arr64 8 H,.arr64 80 k,.sl 1 0 0 [] r c,.u64 all],.mk t [.arr8 L l],.mk 248 [.int m,.arr64 8 W,.arr64 80 k,.nilsl,.u64 (all+UInt64.ofNat P.length)]]⟩
         |some s=>⟨[(0,.ptr 0 0 0 []),(3,.ptr 2 0 0 []),(7,.sl 3 0 0 [] (8*s.a) (8*s.a+s.tl.length)),(8,.int 8),(68,.arr64 8 W),(69,.int s.a)],[.mk 248 [.int m,.arr64 8 H,.arr64 80 k,.sl 1 0 0 [] r c,.u64 all],.mk t [.arr8 L l],.mk 248 [.int m,.arr64 8 W,.arr64 80 k,.nilsl,.u64 (all+UInt64.ofNat P.length)],.mk 5 [.arr8 (8*s.a+s.tl.length) ((List.range (8*s.a)).map (outG W 8)++s.tl)]]⟩)
         (fun q=>match q with|none=>9|some s=>8-s.a) none [0,1,2] ?_ ?_
       ·exact zu
       ·intro q
        cases q with
        |none=>
         refine za ?_
         refine zz (Option (Iw 8)) (fun v=>match v with
           |none=>⟨[(0,.ptr 0 0 0 []),(3,.ptr 2 0 0 []),(7,.nilsl),(8,.int 8),(10,.u64 (W.getD (off [(Int.toNat 0,x3.sz)]) 0)),(11,.int (8-1)),(68,.arr64 8 W),(69,.int 0)],[.mk 248 [.int m,.arr64 8 H,.arr64 80 k,.sl 1 0 0 [] r c,.u64 all],.mk t [.arr8 L l],.mk 248 [.int m,.arr64 8 W,.arr64 80 k,.nilsl,.u64 (all+UInt64.ofNat P.length)]]⟩
           |some v=>⟨[(0,.ptr 0 0 0 []),(3,.ptr 2 0 0 []),(7,.sl 3 0 0 [] v.j (v.j+v.tl.length)),(8,.int 8),(10,.u64 (W.getD (off [(Int.toNat 0,x3.sz)]) 0)),(11,.int ((8:Int)-1-v.j)),(68,.arr64 8 W),(69,.int 0)],[.mk 248 [.int m,.arr64 8 H,.arr64 80 k,.sl 1 0 0 [] r c,.u64 all],.mk t [.arr8 L l],.mk 248 [.int m,.arr64 8 W,.arr64 80 k,.nilsl,.u64 (all+UInt64.ofNat P.length)],.mk 5 [.arr8 (v.j+v.tl.length) ((List.range v.j).map (outG W 8)++v.tl)]]⟩)
           (fun v=>match v with|none=>8+1|some v=>8-v.j) none [0,1,2] ?_ ?_
         ·exact zu
         ·intro v
          cases v with
          |none=>
           refine za ?_
           refine yh fun t1=>?_
           refine za ?_
           rw [zev]
           refine ⟨some ⟨1,t1,by omega⟩,[0,1,2,4],by show 8-1<8+1;omega,?_⟩
           exact zu
          |some v=>
           have hj':=v.hj
           by_cases hj:v.j<8
           ·refine za ?_
            rw [zev]
            refine zr ⟨by omega,by rw [List.length_append,z7],by show _+1≤_;omega⟩ ?_
            refine za ?_
            refine yh fun t2=>?_
            refine za ?_
            refine ⟨some ⟨v.j+1,t2,by omega⟩,[0,1,2,5],by show 8-(v.j+1)<8-v.j;omega,?_⟩
            repeat ((conv=>whnf);refine zb ?_)
            conv=>whnf
            refine yc (congrArg (fun x=>SV.agg [SV.arr8 ((v.j+1)+t2.length) x]) (zb9 (g:=outG W 8) (n:=v.j) (by have:=zb6 W 8 0 v.j hj (k:=Int.toNat 0) rfl (I:=8-1-(v.j:Int)) rfl;rwa [Nat.mul_zero,Nat.zero_add] at this) _ _)) ?_
            repeat ((conv=>whnf);refine zb ?_)
            conv=>whnf
            exact zx (congrArg SV.int (show (8:Int)-1-(v.j:Int)-1=8-1-((v.j+1:Nat):Int) by omega))
           ·have ej:v.j=8:=by omega
            refine za ?_
            refine ⟨some ⟨0+1,v.tl,by omega⟩,[0,1,2,3],by show 8-(0+1)<9;omega,?_⟩
            rw [ej]
            exact zu
        |some s=>
         have ha:=s.ha
         by_cases h8:s.a<8
         ·refine za ?_
          refine zz (Iw 8) (fun v=>⟨[(0,.ptr 0 0 0 []),(3,.ptr 2 0 0 []),(7,.sl 3 0 0 [] (8*s.a+v.j) ((8*s.a+v.j)+v.tl.length)),(8,.int 8),(10,.u64 (W.getD (off [((s.a:Int).toNat,x3.sz)]) 0)),(11,.int ((8:Int)-1-v.j)),(68,.arr64 8 W),(69,.int (s.a:Int))],[.mk 248 [.int m,.arr64 8 H,.arr64 80 k,.sl 1 0 0 [] r c,.u64 all],.mk t [.arr8 L l],.mk 248 [.int m,.arr64 8 W,.arr64 80 k,.nilsl,.u64 (all+UInt64.ofNat P.length)],.mk 5 [.arr8 ((8*s.a+v.j)+v.tl.length) ((List.range (8*s.a+v.j)).map (outG W 8)++v.tl)]]⟩) (fun v=>8-v.j) ⟨0,s.tl,Nat.zero_le _⟩ [0,1,2,3] ?_ ?_
          ·exact zu
          ·intro v
           have hj':=v.hj
           by_cases hj:v.j<8
           ·refine za ?_
            rw [zev]
            refine zr ⟨by omega,by rw [List.length_append,z7],by show _+1≤_;omega⟩ ?_
            refine za ?_
            refine yh fun t2=>?_
            refine za ?_
            refine ⟨⟨v.j+1,t2,by omega⟩,[0,1,2,5],by show 8-(v.j+1)<8-v.j;omega,?_⟩
            repeat ((conv=>whnf);refine zb ?_)
            conv=>whnf
            refine yc (congrArg (fun x=>SV.agg [SV.arr8 ((8*s.a+(v.j+1))+t2.length) x]) (zb9 (g:=outG W 8) (n:=(8*s.a+v.j)) (zb6 W 8 s.a v.j hj (Int.toNat_natCast _) rfl) _ _)) ?_
            repeat ((conv=>whnf);refine zb ?_)
            conv=>whnf
            exact zx (congrArg SV.int (show (8:Int)-1-(v.j:Int)-1=8-1-((v.j+1:Nat):Int) by omega))
           ·have ej:v.j=8:=by omega
            refine za ?_
            refine ⟨some ⟨s.a+1,v.tl,by omega⟩,[0,1,2,3],by show 8-(s.a+1)<8-s.a;omega,?_⟩
            rw [ej]
            exact zu
         ·have e8:s.a=8:=by omega
          have h8m:(8:Int)≠0∧yn (m.tdiv 8):=by rw [hm];exact ⟨by decide,by unfold yn;decide⟩
          have hd8m:m.tdiv 8=48:=by rw [hm];rfl
          refine za ?_
          rw [e8,hd8m]
          have hOl:=zfw W 8
          have hO:(List.range (8*8)).map (outG W 8)=zh0 W 8:=by unfold zh0;rfl
          have hpo:off []+Int.toNat 48≤((List.range (8*8)).map (outG W 8)++s.tl).length:=by rw [List.length_append,z7];show 0+48≤_;omega
          have hsm:zdk m k H (l.take r) all=List.take (Int.toNat 48) (List.drop (off []) ((List.range (8*8)).map (outG W 8)++s.tl)):=by
            unfold zdk
            rw [show (l.take r).length=r by rw [List.length_take];omega,hPp,←htt,hWd,hb,hO,show (m/ 8).toNat=48 by rw [hm];rfl]
            show _=List.take 48 (zh0 W 8++s.tl)
            rw [List.take_append_of_le_length (by rw [hOl];decide)]
          rw [hsm] at h
          refine za ?_
          exact zh [0,1] h
   ·exact h.elim
def zo7:Spec:=fun args hp K=>match args,hp with
  | [.int n,.str s],[]=>Pre ((n=256∨n=384)∧s.length≤140737488351232) (K (.tup [.str (zgx n s),.int 0]) [])
  |_,_=>False
theorem z0u:zp prog 184 zo7:=by
  refine zn zaa (zd z27 (zd zif (zd zws zl))) rfl func184 rfl call184 (D:=z9t) ?_ ?_
  ·intro args hp K h
   unfold zo7 at h
   split at h
   ·exact Nat.le_of_ble_eq_true rfl
   ·exact h.elim
  ·intro args hp K h
   unfold zo7 at h
   split at h
   ·rename_i n s
    obtain ⟨⟨hn,hs⟩,h⟩:=zm h
    have hd:=decide_eq_true hn
    have hk:=zo6
    have hl:=zpk n
    have hwl:=zau (n:=n) (k:=KC) hl [] s
    have hall:(0:UInt64)+UInt64.ofNat s.length=UInt64.ofNat s.length:=UInt64.zero_add _
    have hF:zgx n s=zdk n KC (wrH n KC (HB n) [] s) (wrR n [] s) (0+UInt64.ofNat s.length):=by unfold zgx;rw [hall]
    rw [hF] at h
    by_cases hz:(wrR n [] s).length=0
    ·have hz0:wrR n [] s= []:=List.length_eq_zero_iff.1 hz
     rw [hz0] at h
     have hps:(wrH n KC (HB n) [] s).length=8∧KC.length=80∧248=248∧(n=256∨n=384):=⟨hwl,hk,rfl,hn⟩
     repeat ((conv=>whnf);first|refine zo ?_|refine zf ?_|refine zg ?_|refine zb ?_|refine zr (by first|exact hd) ?_|refine zi (by first|exact hd) ?_|refine zj (by first|exact hd) ?_)
     conv=>whnf
     conv=>whnf
     exact zh [] h
    ·have hrl:=zpu n [] s
     repeat ((conv=>whnf);first|refine zo ?_|refine zf ?_|refine zg ?_|refine zb ?_|refine zr (by first|exact hd) ?_|refine zi (by first|exact hd) ?_|refine zj (by first|exact hd) ?_)
     conv=>whnf
     refine yh fun tl=>?_
     have htk:List.take (wrR n [] s).length (wrR n [] s++tl)=wrR n [] s:=List.take_left' rfl
     have hps:(wrH n KC (HB n) [] s).length=8∧KC.length=80∧248=248∧(n=256∨n=384)∧0<(wrR n [] s).length∧(wrR n [] s).length<bk n∧(wrR n [] s).length≤(wrR n [] s).length+tl.length∧(wrR n [] s).length≤(wrR n [] s++tl).length:=⟨hwl,hk,rfl,hn,by omega,hrl,by omega,by rw [List.length_append];omega⟩
     refine za ?_
     rw [htk]
     conv=>whnf
     exact zh [] h
   ·exact h.elim
end Go.Sym.Z
