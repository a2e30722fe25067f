/-
  Contracts of functions of the program, each said of symbolic values, and plain laws; no condition beyond each statement's own.
-/
import Derived.Test.YtmmpgjcpielefaaGreatG30
import Derived.Test.YtmmpgjcpielefaaGreatG29
import Derived.Test.YtmmpgjcpielefaaGreatG22
set_option linter.unusedSimpArgs false
set_option linter.unusedVariables false
namespace Go.Sym.Z
open Go Go.Proofs.Tryz Go.Sym.Lp Go.Sym.Pol Go.Sym.Cha
set_option maxRecDepth 100000
attribute [local irreducible] zs5 car zaw zbt zdq zcl blk
def ye5:List (Nat×List PStep):= []
def yd7:List (Nat×List PStep):= []
def ydt:List (Nat×List PStep):= [(2,[⟨0,[]⟩,⟨1,[]⟩,⟨2,[]⟩,⟨3,[0,1,2]⟩,⟨4,[0,1,2]⟩,⟨5,[0,1,2]⟩,⟨6,[0,1,2,3,4,5]⟩,⟨7,[0,1,2,3,4,5]⟩,⟨8,[0,1,2,3,4,5]⟩,⟨9,[0,1,2,3,4,5,6,7,8]⟩,⟨10,[0,1,2,3,4,5,6,7,8]⟩,⟨11,[0,1,2,3,4,5,6,7,8]⟩,⟨12,[]⟩,⟨13,[]⟩,⟨14,[]⟩])]
def yg1:List (Nat×List PStep):= []
def zrl:Spec:=fun args hp K=>match args,hp with
  | [.str key],[]=>Pre (16≤key.length) (K (.ptr 0 0 0 []) [.mk 223 [.arr64 5 (rOf key),.arr64 5 [0,0,0,0,0]]])
  |_,_=>False
theorem z2a:zm prog 141 zrl:=by
  refine zk xa (zc z69 zg) rfl func141 rfl call141 (D:=ye5) ?_ ?_
  ·intro args hp K h
   unfold zrl at h
   split at h
   ·exact Nat.le_of_ble_eq_true rfl
   ·exact h.elim
  ·intro args hp K h
   unfold zrl at h
   split at h
   ·rename_i key
    obtain ⟨hk,h⟩:=zl h
    obtain ⟨b,hb⟩: ∃b,b=key.take (Int.toNat 16):=⟨_,rfl⟩
    have hbl:b.length=16:=by rw [hb,List.length_take];show min 16 _=16;omega
    refine za ?_
    refine y0 fun tl=>?_
    refine za ?_
    rw [←hb]
    refine zp (Ix (4)) (fun q=>⟨[(0,.str key),(3,.sl 0 0 0 [] b.length (b.length+tl.length)),(4,.int (3+4*(q.i:Int)))],[.mk 5 [.arr8 (b.length+tl.length) (cA b q.i++tl)]]⟩) (fun q=>(4)-q.i) ⟨0,Nat.zero_le _⟩ [0] ?_ ?_
    ·exact zt
    ·intro q
     have hi:=q.hi
     have hl:=zx2 b q.i
     have hI:((3:Int)+4*(q.i:Int)).toNat=3+4*q.i:=by omega
     by_cases h4:q.i<4
     ·refine za ?_
      refine ⟨⟨q.i+1,h4⟩,[0],by show (4)-(q.i+1)<(4)-q.i;omega,?_⟩
      repeat ((conv=>whnf);refine zb ?_)
      conv=>whnf
      refine zq (congrArg (fun x=>SV.agg [SV.arr8 (b.length+tl.length) x]) ?hv) ?_
      case hv=>
        show (cA b q.i++tl).set ((3:Int)+4*(q.i:Int)).toNat ((cA b q.i++tl).getD ((3:Int)+4*(q.i:Int)).toNat 0&&&UInt8.ofNat 15)=cA b (q.i+1)++tl
        rw [hI,zp8 (by omega)]
        simp only [cA]
      exact zt
     ·have e4:q.i=4:=by omega
      rw [e4] at hl
      rw [e4]
      refine za ?_
      refine zp (Ix (3)) (fun r=>⟨[(0,.str key),(3,.sl 0 0 0 [] b.length (b.length+tl.length)),(5,.int (4+4*(r.i:Int)))],[.mk 5 [.arr8 (b.length+tl.length) (cC (cA b 4) r.i++tl)]]⟩) (fun r=>(3)-r.i) ⟨0,Nat.zero_le _⟩ [0] ?_ ?_
      ·exact zt
      ·intro r
       have hri:=r.hi
       have hlr:=zwt (cA b 4) r.i
       by_cases h5:r.i<3
       ·have hI:((4:Int)+4*(r.i:Int)).toNat=4+4*r.i:=by omega
        refine za ?_
        refine ⟨⟨r.i+1,h5⟩,[0],by show (3)-(r.i+1)<(3)-r.i;omega,?_⟩
        repeat ((conv=>whnf);refine zb ?_)
        conv=>whnf
        refine zq (congrArg (fun x=>SV.agg [SV.arr8 (b.length+tl.length) x]) ?hv) ?_
        case hv=>
          show (cC (cA b 4) r.i++tl).set ((4:Int)+4*(r.i:Int)).toNat ((cC (cA b 4) r.i++tl).getD ((4:Int)+4*(r.i:Int)).toNat 0&&&UInt8.ofNat 252)=cC (cA b 4) (r.i+1)++tl
          rw [hI,zp8 (by omega)]
          simp only [cC]
        exact zt
       ·have e5:r.i=3:=by omega
        rw [e5] at hlr
        have hP:16≤16∧0+16≤(cC (cA b 4) 3++tl).length:=⟨by omega,by rw [List.length_append];omega⟩
        have hT:List.take b.length (List.drop (off []) (cC (cA b 4) 3++tl))=cC (cA b 4) 3:=by
          show List.take b.length (cC (cA b 4) 3++tl)=_
          exact List.take_left' (by omega)
        have hrO:(zdq (cC (cA b 4) 3)).set 4 (g64 (zdq (cC (cA b 4) 3)) 4&&&UInt64.ofNat 16777215)=rOf key:=by rw [hb];rfl
        have hll:=zcj (cC (cA b 4) 3)
        rw [e5]
        refine za ?_
        rw [hT]
        refine za ?_
        refine yv (hp':= [.mk 223 [.arr64 5 (rOf key),.arr64 5 [0,0,0,0,0]]]) [2] h ?_
        repeat ((conv=>whnf);refine zb ?_)
        conv=>whnf
        exact zh (congrArg (fun y=>SV.agg [SV.arr64 5 y,SV.arr64 5 [0,0,0,0,0]]) hrO)
   ·exact h.elim
def z5f:Spec:=fun args hp K=>match args,hp with
  | [.int n],[]=>Pre (0≤n) (K (.str (fillB n.toNat)) [])
  |_,_=>False
theorem ybx:zm prog 143 z5f:=by
  refine zk xa zg rfl func143 rfl call143 (D:=yd7) ?_ ?_
  ·intro args hp K h
   unfold z5f at h
   split at h
   ·exact Nat.le_of_ble_eq_true rfl
   ·exact h.elim
  ·intro args hp K h
   unfold z5f at h
   split at h
   ·rename_i n
    obtain ⟨hn,h⟩:=zl h
    have hm:n.tmod 16=((n.toNat%16:Nat):Int):=by rw [Int.tmod_eq_emod_of_nonneg hn];omega
    have hm2:((16:Int)-n.tmod 16).tmod 16=(((16-n.toNat%16)%16:Nat):Int):=by rw [hm,Int.tmod_eq_emod_of_nonneg (by omega)];omega
    refine za ?_
    rw [hm2,Int.toNat_natCast]
    conv=>whnf
    refine yv (hp':= []) [] h ?_
    repeat ((conv=>whnf);refine zb ?_)
    conv=>whnf
    exact zh (congrArg SV.str (by unfold fillB;show List.take _ (List.drop 0 (List.replicate _ 0))=_;rw [List.drop_zero];exact List.take_of_length_le (by rw [List.length_replicate];exact Nat.le_refl _)))
   ·exact h.elim
theorem zgd (v:UInt8):List.take 1 (List.drop (off []) ((List.replicate 1 0).set (off [(0,ty5.sz)]) v))= [v]:=rfl
def zri:Spec:=fun args hp K=>match args,hp with
  | [.int x,.int k],[]=>Pre (k=4∨k=2) (K (.str (if k=4 then [UInt8.ofInt (x/ 2^24),UInt8.ofInt (x/ 2^16),UInt8.ofInt (x/ 2^8),UInt8.ofInt x] else [UInt8.ofInt (x/ 2^8),UInt8.ofInt x])) [])
  |_,_=>False
theorem zn1:zm prog 87 zri:=by
  refine zk xa zg rfl func87 rfl call87 (D:=yg1) ?_ ?_
  ·intro args hp K h
   unfold zri at h
   split at h
   ·exact Nat.le_of_ble_eq_true rfl
   ·exact h.elim
  ·intro args hp K h
   unfold zri at h
   split at h
   ·rename_i x k
    obtain ⟨hk,h⟩:=zl h
    rcases hk with rfl|rfl
    ·rw [if_pos rfl] at h
     refine za ?_
     refine y0 fun t1=>?_
     rw [zgd]
     refine za ?_
     rw [zgd]
     refine zw ⟨by simp,by simp<;>omega,by simp<;>omega⟩ ?_
     refine za ?_
     refine y0 fun t2=>?_
     refine za ?_
     rw [zgd]
     refine y0 fun t3=>?_
     refine za ?_
     rw [zgd]
     refine y0 fun t4=>?_
     refine za ?_
     exact ze [] h
    ·rw [if_neg (by decide)] at h
     refine za ?_
     refine y0 fun t1=>?_
     rw [zgd]
     refine za ?_
     rw [zgd]
     refine zw ⟨by simp,by simp<;>omega,by simp<;>omega⟩ ?_
     refine za ?_
     refine y0 fun t2=>?_
     refine za ?_
     exact ze [] h
   ·exact h.elim
def zrp:Spec:=fun args hp K=>match args,hp with
  | [.int n],[]=>Pre (0≤n) (K (.str (zb1 n.toNat)) [])
  |_,_=>False
theorem z2b:zm prog 144 zrp:=by
  refine zk xa (zc zn1 zg) rfl func144 rfl call144 (D:=ydt) ?_ ?_
  ·intro args hp K h
   unfold zrp at h
   split at h
   ·exact Nat.le_of_ble_eq_true rfl
   ·exact h.elim
  ·intro args hp K h
   unfold zrp at h
   split at h
   ·rename_i n
    obtain ⟨hn,h⟩:=zl h
    obtain ⟨k,rfl⟩:=Int.eq_ofNat_of_zero_le hn
    rw [Int.toNat_natCast] at h
    refine za ?_
    refine y0 fun tl=>?_
    rw [if_pos rfl]
    refine za ?_
    exact ze [] h
   ·exact h.elim
end Go.Sym.Z

namespace Go.Sym.Z
open Go Go.Proofs.Tryz Go.Sym.Lp Go.Sym.Cha Go.Sym.Sha Go.Sym.Hk
set_option maxRecDepth 100000
attribute [local irreducible] xb KC HB zam wrH wrR x4 zei bk kN pdX dgF mP xv
def yfl:List (Nat×List PStep):= []
def yet:List (Nat×List PStep):= []
def yhc:List (Nat×List PStep):= []
def yey:List (Nat×List PStep):= []
def ydy:List (Nat×List PStep):= []
def yba:Spec:=fun args hp K=>match args,hp with
  | [.int x,.int 1],[]=>K (.str [UInt8.ofInt x]) []
  |_,_=>False
theorem yc7:zm prog 87 yba:=by
  refine zk zdi zg rfl func87 rfl call87 (D:=yg1) ?_ ?_
  ·intro args hp K h
   unfold yba at h
   split at h
   ·exact Nat.le_of_ble_eq_true rfl
   ·exact h.elim
  ·intro args hp K h
   unfold yba at h
   split at h
   ·rename_i x
    refine za ?_
    refine y0 fun t1=>?_
    rw [zgd]
    refine za ?_
    exact ze [] h
   ·exact h.elim
def zsl:Spec:=fun args hp K=>match args,hp with
  | [.str s,.int 1],[]=>Pre (s.length≤255) (K (.tup [.str (UInt8.ofInt (s.length:Int) ::s),.int 0]) [])
  |_,_=>False
theorem z30:zm prog 132 zsl:=by
  refine zk zdi (zc yc7 zg) rfl func132 rfl call132 (D:=yfl) ?_ ?_
  ·intro args hp K h
   unfold zsl at h
   split at h
   ·exact Nat.le_of_ble_eq_true rfl
   ·exact h.elim
  ·intro args hp K h
   unfold zsl at h
   split at h
   ·rename_i s
    obtain ⟨hs,h⟩:=zl h
    have hd:decide ((s.length:Int)/ 2^(8*(1:Int)).toNat=0)=true:=decide_eq_true (by show (s.length:Int)/ 256=0;omega)
    repeat ((conv=>whnf);first|refine zu ?_|refine zi ?_|refine zj ?_|refine zb ?_|refine zw (by first|exact hd|(rw [hd];rfl)) ?_|refine zo (by first|exact hd|(rw [hd];rfl)) ?_|refine zn (by first|exact hd|(rw [hd];rfl)) ?_)
    conv=>whnf
    exact ze [] h
   ·exact h.elim
def zki (s:List UInt8) (a:Nat):Nat→Nat
  |0=>0
  |i+1=>256*zki s a i+(s.getD (a+i) 0).toNat
def zti:Spec:=fun args hp K=>match args,hp with
  | [.str s,.int a,.int 2],[]=>Pre (0≤a∧a+2≤(s.length:Int)∧s.length<9223372036854775808) (K (.tup [.int (256*((s.getD a.toNat 0).toNat:Int)+((s.getD (a.toNat+1) 0).toNat:Int)),.int (a+2),.int 0]) [])
  |_,_=>False
theorem z7g:zm prog 120 zti:=by
  refine zk zdi zg rfl func120 rfl call120 (D:=yet) ?_ ?_
  ·intro args hp K h
   unfold zti at h
   split at h
   ·exact Nat.le_of_ble_eq_true rfl
   ·exact h.elim
  ·intro args hp K h
   unfold zti at h
   split at h
   ·rename_i s a
    obtain ⟨⟨ha,hl,hs⟩,h⟩:=zl h
    refine za ?_
    refine zp (Ix (2)) (fun q=>⟨[(0,.str s),(1,.int a),(2,.int 2),(9,.int (zki s a.toNat q.i:Nat)),(27,.int 2),(28,.int q.i)],[]⟩) (fun q=>(2)-q.i) ⟨0,Nat.zero_le _⟩ [] ?_ ?_
    ·exact zt
    ·intro q
     have hi:=q.hi
     have hI:(a+(q.i:Int)).toNat=a.toNat+q.i:=by omega
     by_cases h4:q.i<2
     ·have hb:zki s a.toNat q.i<256:=by
        have:q.i=0∨q.i=1:=by omega
        rcases this with e|e<;>rw [e]
        ·exact Nat.zero_lt_succ _
        ·simp only [zki];rw [Nat.mul_zero,Nat.zero_add];exact UInt8.toNat_lt _
      have hsh:(UInt64.ofNat 8).toNat<64∧yb (((zki s a.toNat q.i:Nat):Int)*2^(UInt64.ofNat 8).toNat):=⟨by decide,by show yb (((zki s a.toNat q.i:Nat):Int)*256);unfold yb;omega⟩
      have hor:zal .or (((zki s a.toNat q.i:Nat):Int)*2^(UInt64.ofNat 8).toNat) (((s.getD (a.toNat+q.i) 0).toNat:Nat):Int)=((zki s a.toNat (q.i+1):Nat):Int):=by
        have hc:=UInt8.toNat_lt (s.getD (a.toNat+q.i) 0)
        have e:=Nat.two_pow_add_eq_or_of_lt (i:=8) hc (zki s a.toNat q.i)
        have e2:(((zki s a.toNat q.i:Nat):Int)*2^(UInt64.ofNat 8).toNat)=((2^8*zki s a.toNat q.i:Nat):Int):=by show _*(256:Int)=((256*_:Nat):Int);omega
        rw [e2,Go.Sym.Ib.ibits_or (by omega) (by omega) (by rw [←e];omega),←e]
        rfl
      refine za ?_
      conv=>whnf
      refine ⟨⟨q.i+1,h4⟩,[],by show (2)-(q.i+1)<(2)-q.i;omega,?_⟩
      repeat ((conv=>whnf);refine zb ?_)
      conv=>whnf
      exact zh (congrArg SV.int (by rw [←hor,←hI]))
     ·have e4:q.i=2:=by omega
      have e5:((zki s a.toNat 2:Nat):Int)=256*((s.getD a.toNat 0).toNat:Int)+((s.getD (a.toNat+1) 0).toNat:Int):=by
        simp only [zki];rw [Nat.mul_zero,Nat.zero_add,Nat.add_zero];omega
      rw [←e5] at h
      rw [e4]
      refine za ?_
      exact ze [] h
   ·exact h.elim
def yb0:Spec:=fun args hp K=>match args,hp with
  | [.str s,.int a],[]=>Pre (0≤a∧a+2≤(s.length:Int)∧s.length<9223372036854775808) (K (.tup [.int (256*((s.getD a.toNat 0).toNat:Int)+((s.getD (a.toNat+1) 0).toNat:Int)),.int (a+2),.int 0]) [])
  |_,_=>False
theorem yeg:zm prog 94 yb0:=by
  refine zk zdi (zc z7g zg) rfl func94 rfl call94 (D:=yhc) ?_ ?_
  ·intro args hp K h
   unfold yb0 at h
   split at h
   ·exact Nat.le_of_ble_eq_true rfl
   ·exact h.elim
  ·intro args hp K h
   unfold yb0 at h
   split at h
   ·rename_i s a
    obtain ⟨hp,h⟩:=zl h
    refine za ?_
    exact ze [] h
   ·exact h.elim
def zh1:Spec:=fun args hp K=>match args,hp with
  | [.int n,.str key,.str info,.int size],[]=>Pre ((n=256∨n=384)∧key.length≤140737488351232∧info.length≤1000∧0≤size∧size≤1000) (K (.tup [.str (exF n key info size.toNat),.int 0]) [])
  |_,_=>False
set_option maxHeartbeats 4000000 in
theorem z2y:zm prog 133 zh1:=by
  refine zk zdi (zc z4x (zc z9b zg)) rfl func133 rfl call133 (D:=yey) ?_ ?_
  ·intro args hp K h
   unfold zh1 at h
   split at h
   ·exact Nat.le_of_ble_eq_true rfl
   ·exact h.elim
  ·intro args hp K h
   unfold zh1 at h
   split at h
   ·rename_i n key info size
    obtain ⟨⟨hn,hk,hi,hs0,hs⟩,h⟩:=zl h
    obtain ⟨z,rfl⟩:=Int.eq_ofNat_of_zero_le hs0
    rw [Int.toNat_natCast] at h
    have hd:=decide_eq_true hn
    have h8:(8:Int)≠0∧yb ((255*n).tdiv 8):=by rcases hn with rfl|rfl<;>exact ⟨by decide,by unfold yb;decide⟩
    have hmx:8160≤(255*n).tdiv 8:=by rcases hn with rfl|rfl<;>decide
    have hfit:yb (255*n):=by rcases hn with rfl|rfl<;>(unfold yb;decide)
    have hm1:=z56 n key 54
    have hm2:=z56 n key 92
    repeat ((conv=>whnf);first|refine zu ?_|refine zi ?_|refine zj ?_|refine zb ?_|refine zw (by first|exact hd) ?_|refine zo (by first|exact hd) ?_|refine zn (by first|exact hd) ?_)
    conv=>whnf
    obtain ⟨d,hdl,hd0⟩: ∃d,dl n=d∧(d=32∨d=48):=⟨_,rfl,by unfold dl;split<;>simp⟩
    have hF:exF n key info z=(xv n key info ((z+d-1)/ d)).1.take z:=by unfold exF;rw [hdl]
    rw [hF] at h
    refine zp (Ix (((z+d-1)/ d))) (fun q=>⟨[(0,.int n),(2,.str info),(3,.int z),(10,.ptr 2 0 0 []),(12,.str (xv n key info q.i).1),(13,.str (xv n key info q.i).2),(14,.int ((q.i:Int)+1))],[.mk 248 [.int n,.arr64 8 (mP n key 54),.arr64 80 KC,.nilsl,.u64 (UInt64.ofNat (bk n))],.mk 248 [.int n,.arr64 8 (mP n key 92),.arr64 80 KC,.nilsl,.u64 (UInt64.ofNat (bk n))],.mk 209 [.ptr 0 0 0 [],.ptr 1 0 0 []]]⟩) (fun q=>(((z+d-1)/ d))-q.i) ⟨0,Nat.zero_le _⟩ [0,1,2] ?_ ?_
    ·repeat ((conv=>whnf);refine zb ?_)
     conv=>whnf
     refine zq (congrArg (fun x:List UInt8×List UInt8=>SV.str x.1) (show (([],[]):List UInt8×List UInt8)=xv n key info 0 by unfold xv;rfl)) ?_
     repeat ((conv=>whnf);refine zb ?_)
     conv=>whnf
     exact zh (congrArg (fun x:List UInt8×List UInt8=>SV.str x.2) (show (([],[]):List UInt8×List UInt8)=xv n key info 0 by unfold xv;rfl))
    ·intro q
     have hqi:=q.hi
     obtain ⟨hel,hel2⟩:=zj9 hn key info q.i
     rw [hdl] at hel
     rcases hd0 with hd0|hd0
     ·subst hd0
      by_cases h4:q.i<(z+32-1)/ 32
      ·have hXl:((xv n key info q.i).2++info++List.take 1 (List.drop (off []) ((List.replicate 1 0).set (off [(0,ty5.sz)]) (UInt8.ofInt ((q.i:Int)+1))))).length≤1073741824:=by rw [zgd,List.length_append,List.length_append];show _+_+1≤_;omega
       have hpm:(n=256∨n=384)∧n=n∧248=248∧248=248∧KC=KC∧KC=KC∧UInt64.ofNat (bk n)=UInt64.ofNat (bk n)∧UInt64.ofNat (bk n)=UInt64.ofNat (bk n)∧(mP n key 54).length=8∧(mP n key 92).length=8∧((xv n key info q.i).2++info++List.take 1 (List.drop (off []) ((List.replicate 1 0).set (off [(0,ty5.sz)]) (UInt8.ofInt ((q.i:Int)+1))))).length≤1073741824:=⟨hn,rfl,rfl,rfl,rfl,rfl,rfl,rfl,hm1,hm2,hXl⟩
       have hml:=zmd hn (mP n key 92) (dgF n (mP n key 54) ((xv n key info q.i).2++info++List.take 1 (List.drop (off []) ((List.replicate 1 0).set (off [(0,ty5.sz)]) (UInt8.ofInt ((q.i:Int)+1))))))
       rw [hdl] at hml
       have hE1:(xv n key info q.i).1++dgF n (mP n key 92) (dgF n (mP n key 54) ((xv n key info q.i).2++info++List.take 1 (List.drop (off []) ((List.replicate 1 0).set (off [(0,ty5.sz)]) (UInt8.ofInt ((q.i:Int)+1))))))=(xv n key info (q.i+1)).1:=by simp only [xv];rw [zgd];rfl
       have hE2:dgF n (mP n key 92) (dgF n (mP n key 54) ((xv n key info q.i).2++info++List.take 1 (List.drop (off []) ((List.replicate 1 0).set (off [(0,ty5.sz)]) (UInt8.ofInt ((q.i:Int)+1))))))=(xv n key info (q.i+1)).2:=by simp only [xv];rw [zgd];rfl
       refine za ?_
       conv=>whnf
       refine ⟨⟨q.i+1,h4⟩,[0,1,2],by show (((z+32-1)/ 32))-(q.i+1)<(((z+32-1)/ 32))-q.i;omega,?_⟩
       repeat ((conv=>whnf);refine zb ?_)
       conv=>whnf
       refine zq (congrArg SV.str hE1) ?_
       repeat ((conv=>whnf);refine zb ?_)
       conv=>whnf
       exact zh (congrArg SV.str hE2)
      ·have e4:q.i=(z+32-1)/ 32:=by omega
       rw [←e4] at h
       refine za ?_
       exact ze [] h
     ·subst hd0
      by_cases h4:q.i<(z+48-1)/ 48
      ·have hXl:((xv n key info q.i).2++info++List.take 1 (List.drop (off []) ((List.replicate 1 0).set (off [(0,ty5.sz)]) (UInt8.ofInt ((q.i:Int)+1))))).length≤1073741824:=by rw [zgd,List.length_append,List.length_append];show _+_+1≤_;omega
       have hpm:(n=256∨n=384)∧n=n∧248=248∧248=248∧KC=KC∧KC=KC∧UInt64.ofNat (bk n)=UInt64.ofNat (bk n)∧UInt64.ofNat (bk n)=UInt64.ofNat (bk n)∧(mP n key 54).length=8∧(mP n key 92).length=8∧((xv n key info q.i).2++info++List.take 1 (List.drop (off []) ((List.replicate 1 0).set (off [(0,ty5.sz)]) (UInt8.ofInt ((q.i:Int)+1))))).length≤1073741824:=⟨hn,rfl,rfl,rfl,rfl,rfl,rfl,rfl,hm1,hm2,hXl⟩
       have hml:=zmd hn (mP n key 92) (dgF n (mP n key 54) ((xv n key info q.i).2++info++List.take 1 (List.drop (off []) ((List.replicate 1 0).set (off [(0,ty5.sz)]) (UInt8.ofInt ((q.i:Int)+1))))))
       rw [hdl] at hml
       have hE1:(xv n key info q.i).1++dgF n (mP n key 92) (dgF n (mP n key 54) ((xv n key info q.i).2++info++List.take 1 (List.drop (off []) ((List.replicate 1 0).set (off [(0,ty5.sz)]) (UInt8.ofInt ((q.i:Int)+1))))))=(xv n key info (q.i+1)).1:=by simp only [xv];rw [zgd];rfl
       have hE2:dgF n (mP n key 92) (dgF n (mP n key 54) ((xv n key info q.i).2++info++List.take 1 (List.drop (off []) ((List.replicate 1 0).set (off [(0,ty5.sz)]) (UInt8.ofInt ((q.i:Int)+1))))))=(xv n key info (q.i+1)).2:=by simp only [xv];rw [zgd];rfl
       refine za ?_
       conv=>whnf
       refine ⟨⟨q.i+1,h4⟩,[0,1,2],by show (((z+48-1)/ 48))-(q.i+1)<(((z+48-1)/ 48))-q.i;omega,?_⟩
       repeat ((conv=>whnf);refine zb ?_)
       conv=>whnf
       refine zq (congrArg SV.str hE1) ?_
       repeat ((conv=>whnf);refine zb ?_)
       conv=>whnf
       exact zh (congrArg SV.str hE2)
      ·have e4:q.i=(z+48-1)/ 48:=by omega
       rw [←e4] at h
       refine za ?_
       exact ze [] h
   ·exact h.elim
def zaq (n:Int) (key label ctx:List UInt8) (size:Nat):List UInt8:=
  exF n key ([UInt8.ofInt ((size:Int)/ 2^8),UInt8.ofInt (size:Int)]++(UInt8.ofInt ((([116,108,115,49,51,32]++label:List UInt8).length:Nat):Int) ::([116,108,115,49,51,32]++label))++(UInt8.ofInt (ctx.length:Int) ::ctx)) size
theorem zuv {n:Int} (hn:n=256∨n=384) (key label ctx:List UInt8) (size:Nat):(zaq n key label ctx size).length=size:=z9q hn _ _ _
def zkp:Spec:=fun args hp K=>match args,hp with
  | [.int n,.str key,.str label,.str ctx,.int size],[]=>Pre ((n=256∨n=384)∧key.length≤140737488351232∧label.length≤100∧ctx.length≤255∧0≤size∧size≤1000) (K (.tup [.str (zaq n key label ctx size.toNat),.int 0]) [])
  |_,_=>False
theorem z8h:zm prog 114 zkp:=by
  refine zk zdi (zc zn1 (zc z30 (zc z2y zg))) rfl func114 rfl call114 (D:=ydy) ?_ ?_
  ·intro args hp K h
   unfold zkp at h
   split at h
   ·exact Nat.le_of_ble_eq_true rfl
   ·exact h.elim
  ·intro args hp K h
   unfold zkp at h
   split at h
   ·rename_i n key label ctx size
    obtain ⟨⟨hn,hk,hl,hc,hs0,hs⟩,h⟩:=zl h
    obtain ⟨z,rfl⟩:=Int.eq_ofNat_of_zero_le hs0
    rw [Int.toNat_natCast] at h
    have hIl:([UInt8.ofInt ((z:Int)/ 2^8),UInt8.ofInt (z:Int)]++(UInt8.ofInt ((([116,108,115,49,51,32]++label:List UInt8).length:Nat):Int) ::([116,108,115,49,51,32]++label))++(UInt8.ofInt (ctx.length:Int) ::ctx)).length≤1000:=by simp only [List.length_append,List.length_cons,List.length_nil];omega
    have hpx:(n=256∨n=384)∧key.length≤140737488351232∧([UInt8.ofInt ((z:Int)/ 2^8),UInt8.ofInt (z:Int)]++(UInt8.ofInt ((([116,108,115,49,51,32]++label:List UInt8).length:Nat):Int) ::([116,108,115,49,51,32]++label))++(UInt8.ofInt (ctx.length:Int) ::ctx)).length≤1000∧0≤(z:Int)∧(z:Int)≤1000:=⟨hn,hk,hIl,hs0,hs⟩
    unfold zaq at h
    have hll:(([116,108,115,49,51,32]++label:List UInt8)).length≤255:=by simp only [List.length_append,List.length_cons,List.length_nil];omega
    refine za ?_
    rw [if_neg (by decide)]
    refine za ?_
    conv=>whnf
    exact ze [] h
   ·exact h.elim
end Go.Sym.Z

namespace Go.Sym.Z
open Go Go.Proofs.Tryz Go.Sym.Lp Go.Sym.Pol Go.Sym.Cha
set_option maxRecDepth 100000
attribute [local irreducible] zcl blk zf3 rOf fillB zb1 xl
def yef:List (Nat×List PStep):= []
def yea:List (Nat×List PStep):= [(6,[⟨0,[]⟩,⟨1,[0]⟩,⟨2,[0,1]⟩,⟨3,[0,1]⟩,⟨4,[0,1,2,3]⟩,⟨5,[0,1,2,3]⟩,⟨6,[0,1,2,3]⟩,⟨7,[0,1]⟩,⟨8,[0]⟩,⟨9,[0]⟩,⟨10,[0,1,2,3,4,5,6,7,8,9]⟩,⟨11,[0,1,2,3,4,5,6,7,8,9]⟩,⟨14,[0,1,2,3,4,5,6,7,8,9,10,11]⟩,⟨15,[0,1,2,3,4,5,6,7,8,9,10,11]⟩,⟨18,[0,1,2,3,4,5,6,7,8,9,10,11,14,15]⟩,⟨19,[0,1,2,3,4,5,6,7,8,9,10,11,14,15]⟩,⟨12,[0,1,2,3,4,5,6,7,8,9,14,15,18,19]⟩,⟨13,[0,14,15,18,19]⟩,⟨16,[0,1,2,3,4,5,6,7,8,9,18,19,13]⟩,⟨17,[0,18,19]⟩,⟨20,[0,1,2,3,4,5,6,7,8,9,13,17]⟩,⟨21,[0]⟩,⟨22,[0]⟩,⟨23,[]⟩])]
def ye7:List (Nat×List PStep):= [(5,[⟨0,[]⟩,⟨1,[0]⟩,⟨2,[0,1]⟩,⟨3,[0,1,2]⟩,⟨5,[0,1,2,3]⟩,⟨6,[0,1,2,3,5]⟩,⟨7,[0,1,2,3]⟩,⟨4,[5,6,7]⟩,⟨8,[]⟩])]
def yt (key nonce aad b:List UInt8):List UInt8:=
  zf3 (zqv (rOf ((blk key nonce 0).take 32)) aad b) ((blk key nonce 0).take 32)
def zno:Spec:=fun args hp K=>match args,hp with
  | [.str key,.str nonce,.str aad,.sl 0 0 0 [] n c],[.mk t [.arr8 m l]]=>Pre (key.length=32∧nonce.length=12∧aad.length≤65536∧n≤65536∧n≤l.length∧n≤c)
      (K (.str (yt key nonce aad (l.take n))) [.mk t [.arr8 m l]])
  |_,_=>False
theorem z5l:zm prog 118 zno:=by
  refine zk xa (zc zxv (zc z2a (zc ybu (zc ybx (zc z2b (zc ydf zg)))))) rfl func118 rfl call118 (D:=yea) ?_ ?_
  ·intro args hp K h
   unfold zno at h
   split at h
   ·exact Nat.le_of_ble_eq_true rfl
   ·exact h.elim
  ·intro args hp K h
   unfold zno at h
   split at h
   ·rename_i key nonce aad n c t m l
    obtain ⟨⟨hk,hn,ha,hn2,hl,hc⟩,h⟩:=zl h
    have hkn:key.length=32∧(0≤(0:Int)∧(0:Int)≤4294967295)∧nonce.length=12:=⟨hk,by decide,hn⟩
    have hbl:=zfm key nonce (UInt32.ofInt 0)
    obtain ⟨own,ho⟩: ∃own,own=(blk key nonce (UInt32.ofInt 0)).take (Int.toNat 32):=⟨_,rfl⟩
    have hol:own.length=32:=by rw [ho,List.length_take,hbl];rfl
    have hB:(l.take n).length=n:=by rw [List.length_take];omega
    have hG:yt key nonce aad (l.take n)=zf3 (zqv (rOf own) aad (l.take n)) own:=by rw [ho];unfold yt;rfl
    rw [hG] at h
    have hrl:=z8o own
    have hm:(n:Int).tmod 16=((n%16:Nat):Int):=by rw [Int.tmod_eq_emod_of_nonneg (by omega)];omega
    have hA:((aad.length:Int)).toNat=aad.length:=Int.toNat_natCast _
    have hN:((n:Int)).toNat=n:=Int.toNat_natCast _
    have hfa:=zbv aad.length
    have hfn:=zbv n
    have h8a:=zc6 aad.length
    have h8n:=zc6 n
    refine za ?_
    rw [←ho,hA]
    clear hbl
    unfold zqv at h
    rw [hB] at h
    obtain ⟨rest,hrest⟩: ∃rest,rest=(l.take n).drop (n-n%16):=⟨_,rfl⟩
    have ht2:(l.take n).take (n-n%16)=l.take (n-n%16):=by rw [List.take_take,Nat.min_eq_left (by omega)]
    rw [←hrest,ht2] at h
    generalize hbe:blk key nonce (UInt32.ofInt 0)=BB at*
    clear hG
    generalize rOf own=r at*
    generalize fillB aad.length=fa at*
    obtain ⟨s1,hs1⟩: ∃s1,s1=aad++fa:=⟨_,rfl⟩
    have hs1l:s1.length≤65600:=by rw [hs1,List.length_append,hfa];omega
    have z5:([0,0,0,0,0]:List UInt64).length=5:=rfl
    refine zw (by rw [hfa];omega) ?_
    rw [←hs1]
    refine za ?_
    refine y0 fun t1=>?_
    have e1:List.take s1.length (s1++t1)=s1:=List.take_left' rfl
    have hk2:((n:Int)-(n:Int).tmod 16).toNat=n-n%16:=by omega
    have hsl:=ycc c ((n:Int)-(n:Int).tmod 16).toNat
    have hx1:=zn6 (r:=r) z5 (List.take s1.length (s1++t1))
    have hx2:=zn6 (r:=r) hx1 (List.take ((n:Int)-(n:Int).tmod 16).toNat l)
    have hp1:r.length=5∧([0,0,0,0,0]:List UInt64).length=5∧s1.length≤(s1++t1).length∧s1.length≤s1.length+t1.length:=⟨hrl,rfl,by rw [List.length_append];omega,by omega⟩
    have hp2:r.length=5∧(zcl r [0,0,0,0,0] (List.take s1.length (s1++t1))).length=5∧((n:Int)-(n:Int).tmod 16).toNat≤l.length∧((n:Int)-(n:Int).tmod 16).toNat≤c:=⟨hrl,hx1,by omega,by omega⟩
    have hp3:off (ye [] (slO c ((n:Int)-(n:Int).tmod 16).toNat) ty5.sz)+(n-((n:Int)-(n:Int).tmod 16).toNat)≤l.length:=by
      show slO c ((n:Int)-(n:Int).tmod 16).toNat+_≤_;omega
    have hrl3:(List.take (n-((n:Int)-(n:Int).tmod 16).toNat) (List.drop (off (ye [] (slO c ((n:Int)-(n:Int).tmod 16).toNat) ty5.sz)) l)).length≤16:=by
      rw [List.length_take];omega
    have hf1:(fillB ((n:Int)).toNat).length≤16:=by rw [zbv];omega
    have h81:(zb1 ((aad.length:Int)).toNat).length=8:=zc6 _
    have h82:(zb1 ((n:Int)).toNat).length=8:=zc6 _
    have hn0:0≤(n:Int):=by omega
    have ha0:0≤(aad.length:Int):=by omega
    have hRR:List.take (n-((n:Int)-(n:Int).tmod 16).toNat) (List.drop (off (ye [] (slO c ((n:Int)-(n:Int).tmod 16).toNat) ty5.sz)) l)=rest:=by
      rw [hk2,hrest,List.drop_take]
      show List.take _ (List.drop (slO c (n-n%16)) l)=_
      by_cases hc2:c=n-n%16
      ·rw [show n-(n-n%16)=0 by omega,List.take_zero,List.take_zero]
      ·rw [xt hc2]
    refine za ?_
    refine y0 fun t2=>?_
    refine za ?_
    refine zw ⟨zn6 hx2 _,hol⟩ ?_
    refine za ?_
    have hS:List.take s1.length (s1++t1)=aad++fa:=by rw [e1,hs1]
    have hfin:zf3 (zcl r (zcl r (zcl r [0,0,0,0,0] (List.take s1.length (s1++t1))) (List.take ((n:Int)-(n:Int).tmod 16).toNat l)) (List.take (List.take (n-((n:Int)-(n:Int).tmod 16).toNat) (List.drop (off (ye [] (slO c ((n:Int)-(n:Int).tmod 16).toNat) ty5.sz)) l)++fillB ((n:Int)).toNat++zb1 ((aad.length:Int)).toNat++zb1 ((n:Int)).toNat).length ((List.take (n-((n:Int)-(n:Int).tmod 16).toNat) (List.drop (off (ye [] (slO c ((n:Int)-(n:Int).tmod 16).toNat) ty5.sz)) l)++fillB ((n:Int)).toNat++zb1 ((aad.length:Int)).toNat++zb1 ((n:Int)).toNat)++t2))) own=zf3 (zcl r (zcl r (zcl r [0,0,0,0,0] (aad++fa)) (l.take (n-n%16))) (rest++fillB n++zb1 aad.length++zb1 n)) own:=by
      rw [List.take_left' (l₂:=t2) rfl,hRR,hS,hk2,hA,hN]
    conv=>whnf
    refine yv (hp':= [.mk t [.arr8 m l]]) [0] h ?_
    repeat ((conv=>whnf);refine zb ?_)
    conv=>whnf
    exact zh (congrArg SV.str hfin)
   ·exact h.elim
def z32:Spec:=fun args hp K=>match args,hp with
  | [.str key,.str nonce,.str aad,.int most,.int long],[]=>K (.bool (decide (key.length=32∧nonce.length=12∧aad.length≤65536∧long≤most))) []
  |_,_=>False
theorem yc1:zm prog 167 z32:=by
  refine zk xa zg rfl func167 rfl call167 (D:=yef) ?_ ?_
  ·intro args hp K h
   unfold z32 at h
   split at h
   ·exact Nat.le_of_ble_eq_true rfl
   ·exact h.elim
  ·intro args hp K h
   unfold z32 at h
   split at h
   ·rename_i key nonce aad most long
    by_cases h1:key.length=32
    ·by_cases h2:nonce.length=12
     ·by_cases h3:aad.length≤65536
      ·by_cases h4:long≤most
       ·rw [decide_eq_true ⟨h1,h2,h3,h4⟩] at h
        have d4:decide (long≤most)=true:=decide_eq_true h4
        refine za ?_
        rw [d4]
        conv=>whnf
        exact ze [] h
       ·rw [decide_eq_false fun hh=>h4 hh.2.2.2] at h
        have d4:decide (long≤most)=false:=decide_eq_false h4
        refine za ?_
        rw [d4]
        conv=>whnf
        exact ze [] h
      ·rw [decide_eq_false fun hh=>h3 hh.2.2.1] at h
       refine za ?_
       exact ze [] h
     ·rw [decide_eq_false fun hh=>h2 hh.2.1] at h
      refine za ?_
      exact ze [] h
    ·rw [decide_eq_false fun hh=>h1 hh.1] at h
     refine za ?_
     exact ze [] h
   ·exact h.elim
end Go.Sym.Z

namespace Go.Sym.Z
open Go Go.Proofs.Tryz Go.Sym.Lp Go.Sym.Pol Go.Sym.Cha
set_option maxRecDepth 100000
attribute [local irreducible] yt xl blk
def zav (key nonce aad s:List UInt8):List UInt8:=
  xl key nonce 1 s++yt key nonce aad (xl key nonce 1 s)
theorem zty (key nonce aad b:List UInt8):(yt key nonce aad b).length=16:=by
  unfold yt
  exact z1s _ _
def zeo:Spec:=fun args hp K=>match args,hp with
  | [.str key,.str nonce,.str aad,.str s],[]=>Pre (s.length<9223372036854775808) <|
      if (key.length=32∧nonce.length=12∧aad.length≤65536∧(s.length:Int)-16≤65536)∧16≤s.length∧yt key nonce aad (s.take (s.length-16))=s.drop (s.length-16) then
       K (.tup [.str (xl key nonce 1 (s.take (s.length-16))),.int 0]) []
      else K (.tup [.str [],.int 700]) []
  |_,_=>False
theorem zv1:zm prog 150 zeo:=by
  refine zk xa (zc yc1 (zc zyq (zc z5l zg))) rfl func150 rfl call150 (D:=ye7) ?_ ?_
  ·intro args hp K h
   unfold zeo at h
   split at h
   ·exact Nat.le_of_ble_eq_true rfl
   ·exact h.elim
  ·intro args hp K h
   unfold zeo at h
   split at h
   ·rename_i key nonce aad s
    obtain ⟨hs63,h⟩:=zl h
    by_cases h0:key.length=32∧nonce.length=12∧aad.length≤65536∧(s.length:Int)-16≤65536
    ·have hd:=decide_eq_true h0
     by_cases h1:16≤s.length
     ·have hn:((s.length:Int)-16).toNat=s.length-16:=by omega
      have d1:decide ((s.length:Int)-16<0)=false:=decide_eq_false (by omega)
      obtain ⟨B,hB⟩: ∃B,B=s.take (s.length-16):=⟨_,rfl⟩
      have hBl:B.length=s.length-16:=by rw [hB,List.length_take];omega
      rw [←hB] at h
      repeat ((conv=>whnf);first|refine zu ?_|refine zi ?_|refine zj ?_|refine zb ?_|refine zw (by first|exact hd|(rw [hd];rfl)) ?_|refine zo (by first|exact hd|(rw [hd];rfl)) ?_|refine zn (by first|exact hd|(rw [hd];rfl)) ?_)
      conv=>whnf
      refine y0 fun t1=>?_
      have hT:(List.take ((s.length:Int)-16).toNat s)=B:=by rw [hB,hn]
      have hTl:(List.take ((s.length:Int)-16).toNat s).length=s.length-16:=by rw [hT,hBl]
      have hp1:key.length=32∧nonce.length=12∧aad.length≤65536∧(List.take ((s.length:Int)-16).toNat s).length≤65536∧(List.take ((s.length:Int)-16).toNat s).length≤((List.take ((s.length:Int)-16).toNat s)++t1).length∧(List.take ((s.length:Int)-16).toNat s).length≤(List.take ((s.length:Int)-16).toNat s).length+t1.length:=⟨h0.1,h0.2.1,h0.2.2.1,by omega,by rw [List.length_append];omega,by omega⟩
      have hp2:key.length=32∧nonce.length=12∧(List.take ((s.length:Int)-16).toNat s).length≤((List.take ((s.length:Int)-16).toNat s)++t1).length∧(List.take ((s.length:Int)-16).toNat s).length≤(List.take ((s.length:Int)-16).toNat s).length+t1.length∧(List.take ((s.length:Int)-16).toNat s).length≤9223372036854775807:=⟨h0.1,h0.2.1,by rw [List.length_append];omega,by omega,by omega⟩
      refine za ?_
      have hTk:List.take (List.take ((s.length:Int)-16).toNat s).length ((List.take ((s.length:Int)-16).toNat s)++t1)=B:=by rw [List.take_left' rfl];exact hT
      by_cases hq:yt key nonce aad B=s.drop (s.length-16)
      ·rw [if_pos ⟨h0,h1,hq⟩] at h
       have hdq:decide (yt key nonce aad (List.take (List.take ((s.length:Int)-16).toNat s).length ((List.take ((s.length:Int)-16).toNat s)++t1))=List.drop ((s.length:Int)-16).toNat s)=true:=decide_eq_true (by rw [hTk,hn];exact hq)
       repeat ((conv=>whnf);first|refine zu ?_|refine zi ?_|refine zj ?_|refine zb ?_|refine zw (by first|exact hdq|(rw [hdq];rfl)) ?_|refine zo (by first|exact hdq|(rw [hdq];rfl)) ?_|refine zn (by first|exact hdq|(rw [hdq];rfl)) ?_)
       conv=>whnf
       have hX:(xl key nonce (UInt32.ofInt 1) (List.take (List.take ((s.length:Int)-16).toNat s).length ((List.take ((s.length:Int)-16).toNat s)++t1))++List.drop (List.take ((s.length:Int)-16).toNat s).length ((List.take ((s.length:Int)-16).toNat s)++t1))=xl key nonce 1 B++t1:=by rw [hTk,List.drop_left' rfl];rfl
       have hp3:off []+(List.take ((s.length:Int)-16).toNat s).length≤(xl key nonce (UInt32.ofInt 1) (List.take (List.take ((s.length:Int)-16).toNat s).length ((List.take ((s.length:Int)-16).toNat s)++t1))++List.drop (List.take ((s.length:Int)-16).toNat s).length ((List.take ((s.length:Int)-16).toNat s)++t1)).length:=by rw [hX,List.length_append,zgv,hBl,hTl];show 0+_≤_;omega
       have hF:List.take (List.take ((s.length:Int)-16).toNat s).length (List.drop (off []) (xl key nonce (UInt32.ofInt 1) (List.take (List.take ((s.length:Int)-16).toNat s).length ((List.take ((s.length:Int)-16).toNat s)++t1))++List.drop (List.take ((s.length:Int)-16).toNat s).length ((List.take ((s.length:Int)-16).toNat s)++t1)))=xl key nonce 1 B:=by
         rw [hX,hTl];show List.take _ (List.drop 0 _)=_;rw [List.drop_zero];exact List.take_left' (by rw [zgv,hBl])
       refine za ?_
       conv=>whnf
       refine yv (hp':= []) [] h ?_
       repeat ((conv=>whnf);refine zb ?_)
       conv=>whnf
       exact zh (congrArg (fun y=>SV.tup [SV.str y,SV.int 0]) hF)
      ·rw [if_neg fun hh=>hq hh.2.2] at h
       have hdq:decide (yt key nonce aad (List.take (List.take ((s.length:Int)-16).toNat s).length ((List.take ((s.length:Int)-16).toNat s)++t1))=List.drop ((s.length:Int)-16).toNat s)=false:=decide_eq_false (by rw [hTk,hn];exact hq)
       repeat ((conv=>whnf);first|refine zu ?_|refine zi ?_|refine zj ?_|refine zb ?_|refine zw (by first|exact hdq|(rw [hdq];rfl)) ?_|refine zo (by first|exact hdq|(rw [hdq];rfl)) ?_|refine zn (by first|exact hdq|(rw [hdq];rfl)) ?_)
       conv=>whnf
       exact ze [] h
     ·rw [if_neg fun hh=>h1 hh.2.1] at h
      repeat ((conv=>whnf);first|refine zu ?_|refine zi ?_|refine zj ?_|refine zb ?_|refine zw (by first|exact hd|(rw [hd];rfl)) ?_|refine zo (by first|exact hd|(rw [hd];rfl)) ?_|refine zn (by first|exact hd|(rw [hd];rfl)) ?_)
      conv=>whnf
      exact ze [] h
    ·rw [if_neg fun hh=>h0 hh.1] at h
     have hd:=decide_eq_false h0
     repeat ((conv=>whnf);first|refine zu ?_|refine zi ?_|refine zj ?_|refine zb ?_|refine zw (by first|exact hd|(rw [hd];rfl)) ?_|refine zo (by first|exact hd|(rw [hd];rfl)) ?_|refine zn (by first|exact hd|(rw [hd];rfl)) ?_)
     conv=>whnf
     exact ze [] h
   ·exact h.elim
end Go.Sym.Z

namespace Go.Sym.Z
open Go Go.Proofs.Tryz Go.Sym.Lp Go.Sym.Gcm Go.Sym.Aes Go.Sym.Pol Go.Sym.Cha
set_option maxRecDepth 100000
def yh5:List (Nat×List PStep):= []
def yhb:List (Nat×List PStep):= []
def yeb:List (Nat×List PStep):= []
def yhn:List (Nat×List PStep):= []
attribute [local irreducible] zav yt zg4 zg5 ze1 xl
def zeg (w:Int) (n:Nat):Prop:=w=4865∧n=16∨w=4866∧n=32∨w=4867∧n=32
instance (w:Int) (n:Nat):Decidable (zeg w n):=by unfold zeg;exact inferInstance
def y4 (w:Int) (key nonce aad s:List UInt8):List UInt8:=if w=4867 then zav key nonce aad s else zg4 key nonce aad s
def zas (w:Int) (key nonce aad s:List UInt8):List UInt8:=if w=4867 then yt key nonce aad s else zg5 key nonce aad s
def y5 (w:Int) (key nonce s:List UInt8):List UInt8:=if w=4867 then xl key nonce 1 s else ze1 key nonce s
theorem xp (w:Int) (key nonce s:List UInt8):(y5 w key nonce s).length=s.length:=by
  unfold y5;split
  ·exact zgv _ _ _ _
  ·exact znu _ _ _
theorem zbz (w:Int) (key nonce aad s:List UInt8):(zas w key nonce aad s).length=16:=by
  unfold zas;split
  ·exact zty _ _ _ _
  ·exact z44 _ _ _ _
theorem za2 (w:Int) (key nonce aad s:List UInt8):y4 w key nonce aad s=y5 w key nonce s++zas w key nonce aad (y5 w key nonce s):=by
  unfold y4 y5 zas
  split
  ·unfold zav;rfl
  ·unfold zg4;rfl
def zkw:Spec:=fun args hp K=>match args,hp with
  | [.int w],[]=>zx (decide (w=4865)) (K (.tup [.int 16,.int 256,.int 0]) []) (zx (decide (w=4866)) (K (.tup [.int 32,.int 384,.int 0]) []) (zx (decide (w=4867)) (K (.tup [.int 32,.int 256,.int 0]) []) (K (.tup [.int 0,.int 0,.int 800]) [])))
  |_,_=>False
theorem zsi:zm prog 85 zkw:=by
  refine zk yz zg rfl func85 rfl call85 (D:=yh5) ?_ ?_
  ·intro args hp K h
   unfold zkw at h
   split at h
   ·exact Nat.le_of_ble_eq_true rfl
   ·exact h.elim
  ·intro args hp K h
   unfold zkw at h
   split at h
   ·rename_i w
    obtain ⟨ht,hn⟩:=zy h
    by_cases h1:w=4865
    ·have h:=ht (decide_eq_true h1)
     refine za ?_
     exact ze [] h
    ·have h:=hn (decide_eq_false h1)
     obtain ⟨ht,hn⟩:=zy h
     by_cases h2:w=4866
     ·have h:=ht (decide_eq_true h2)
      refine za ?_
      exact ze [] h
     ·have h:=hn (decide_eq_false h2)
      obtain ⟨ht,hn⟩:=zy h
      by_cases h3:w=4867
      ·have h:=ht (decide_eq_true h3)
       refine za ?_
       exact ze [] h
      ·have h:=hn (decide_eq_false h3)
       refine za ?_
       exact ze [] h
   ·exact h.elim
def zym:Spec:=fun args hp K=>match args,hp with
  | [.int e],[]=>K (.int e) []
  |_,_=>False
theorem z2h:zm prog 12 zym:=by
  refine zk yz zg rfl func12 rfl call12 (D:=yhn) ?_ ?_
  ·intro args hp K h
   unfold zym at h
   split at h
   ·exact Nat.le_of_ble_eq_true rfl
   ·exact h.elim
  ·intro args hp K h
   unfold zym at h
   split at h
   ·rename_i e
    refine za ?_
    exact ze [] h
   ·exact h.elim
def z6x:Spec:=fun args hp K=>match args,hp with
  | [.int w,.str key,.str nonce,.str aad,.int long],[]=>K (.bool (decide (zeg w key.length∧nonce.length=12∧aad.length≤65536∧long≤65536))) []
  |_,_=>False
set_option maxHeartbeats 4000000 in
theorem z6l:zm prog 88 z6x:=by
  refine zk yz (zc zsi zg) rfl func88 rfl call88 (D:=yhb) ?_ ?_
  ·intro args hp K h
   unfold z6x at h
   split at h
   ·exact Nat.le_of_ble_eq_true rfl
   ·exact h.elim
  ·intro args hp K h
   unfold z6x at h
   split at h
   ·rename_i w key nonce aad long
    have four:w=4865∨w=4866∨w=4867∨(w≠4865∧w≠4866∧w≠4867):=by omega
    by_cases hk:zeg w key.length
    ·have hk':=hk
     unfold zeg at hk'
     by_cases h2:nonce.length=12
     ·by_cases h3:aad.length≤65536
      ·have hd:decide (zeg w key.length∧nonce.length=12∧aad.length≤65536∧long≤65536)=decide (long≤65536):=by
         by_cases h4:long≤65536
         ·rw [decide_eq_true h4];exact decide_eq_true ⟨hk,h2,h3,h4⟩
         ·rw [decide_eq_false h4];exact decide_eq_false fun hh=>h4 hh.2.2.2
       rw [hd] at h
       rcases hk' with ⟨h0,h1⟩|⟨h0,h1⟩|⟨h0,h1⟩
       ·refine za ?_
        exact ze [] h
       ·refine za ?_
        exact ze [] h
       ·refine za ?_
        exact ze [] h
      ·rw [decide_eq_false fun hh=>h3 hh.2.2.1] at h
       rcases hk' with ⟨h0,h1⟩|⟨h0,h1⟩|⟨h0,h1⟩
       ·refine za ?_
        exact ze [] h
       ·refine za ?_
        exact ze [] h
       ·refine za ?_
        exact ze [] h
     ·rw [decide_eq_false fun hh=>h2 hh.2.1] at h
      rcases hk' with ⟨h0,h1⟩|⟨h0,h1⟩|⟨h0,h1⟩
      ·refine za ?_
       exact ze [] h
      ·refine za ?_
       exact ze [] h
      ·refine za ?_
       exact ze [] h
    ·rw [decide_eq_false fun hh=>hk hh.1] at h
     unfold zeg at hk
     rcases four with h0|h0|h0|⟨h0,h1,h2⟩
     ·refine za ?_
      exact ze [] h
     ·refine za ?_
      exact ze [] h
     ·refine za ?_
      exact ze [] h
     ·refine za ?_
      exact ze [] h
   ·exact h.elim
theorem zsh {P:Program} {f:FuncId} {S S':Spec} (h:zm P f S) (hs: ∀args hp K,S' args hp K→S args hp K):zm P f S':=fun args hp K h1=>h args hp K (hs args hp K h1)
def zwu:Spec:=fun args hp K=>match args,hp with
  | [.str key,.str nonce,.str aad,.str s],[]=>Pre (key.length=32∧nonce.length=12∧aad.length≤65536∧(s.length:Int)≤65536) (K (.tup [.str (zav key nonce aad s),.int 0]) [])
  |_,_=>False
def zv4:Spec:=fun args hp K=>match args,hp with
  | [.str key,.str nonce,.str aad,.str s],[]=>Pre ((key.length=16∨key.length=32)∧nonce.length=12∧aad.length≤65536∧(s.length:Int)≤65536) (K (.tup [.str (zg4 key nonce aad s),.int 0]) [])
  |_,_=>False
def zv0:Spec:=fun args hp K=>match args,hp with
  | [.str key,.str nonce,.str aad,.str s],[]=>Pre (key.length=32∧nonce.length=12∧aad.length≤65536∧(s.length:Int)-16≤65536)
      (zx (decide (16≤s.length∧yt key nonce aad (s.take (s.length-16))=s.drop (s.length-16))) (K (.tup [.str (xl key nonce 1 (s.take (s.length-16))),.int 0]) []) (K (.tup [.str [],.int 700]) []))
  |_,_=>False
def zxn:Spec:=fun args hp K=>match args,hp with
  | [.str key,.str nonce,.str aad,.str s],[]=>Pre ((key.length=16∨key.length=32)∧nonce.length=12∧aad.length≤65536∧(s.length:Int)-16≤65536)
      (zx (decide (16≤s.length∧zg5 key nonce aad (s.take (s.length-16))=s.drop (s.length-16))) (K (.tup [.str (ze1 key nonce (s.take (s.length-16))),.int 0]) []) (K (.tup [.str [],.int 501]) []))
  |_,_=>False
theorem z8a: ∀args hp K,zv4 args hp K→zm8 args hp K:=by
  intro args hp K h
  unfold zv4 at h
  unfold zm8
  split at h
  ·obtain ⟨h0,h⟩:=zl h
   try dsimp only
   rw [if_pos h0];exact h
  ·exact h.elim
theorem z80: ∀args hp K,zv0 args hp K→zeo args hp K:=by
  intro args hp K h
  unfold zv0 at h
  unfold zeo
  split at h
  ·obtain ⟨h0,h⟩:=zl h
   obtain ⟨ht,hn⟩:=zy h
   try dsimp only
   refine zw (by omega) ?_
   split
   ·rename_i hc;exact ht (decide_eq_true hc.2)
   ·rename_i hc;exact hn (decide_eq_false fun hh=>hc ⟨h0,hh⟩)
  ·exact h.elim
theorem z91: ∀args hp K,zxn args hp K→znw args hp K:=by
  intro args hp K h
  unfold zxn at h
  unfold znw
  split at h
  ·obtain ⟨h0,h⟩:=zl h
   obtain ⟨ht,hn⟩:=zy h
   try dsimp only
   rw [if_pos ⟨h0.1,h0.2.1,h0.2.2.1,by omega⟩]
   split
   ·rename_i hc;exact ht (decide_eq_true hc)
   ·rename_i hc;exact hn (decide_eq_false hc)
  ·exact h.elim
theorem z4c:zm prog 150 zv0:=zsh zv1 z80
theorem z5p:zm prog 151 zxn:=zsh z9l z91
def zrz:Spec:=fun args hp K=>match args,hp with
  | [.int w,.str key,.str nonce,.str aad,.str s],[]=>
      zx (decide (zeg w key.length∧nonce.length=12∧aad.length≤65536∧(s.length:Int)≤65536))
        (K (.tup [.str (y4 w key nonce aad s),.int 0]) []) (K (.tup [.str [],.int 800]) [])
  |_,_=>False
def zvv:Spec:=fun args hp K=>match args,hp with
  | [.int w,.str key,.str nonce,.str aad,.str s],[]=>Pre (s.length<9223372036854775808)
      (zx (decide (zeg w key.length∧nonce.length=12∧aad.length≤65536∧(s.length:Int)-16≤65536))
        (zx (decide (16≤s.length∧zas w key nonce aad (s.take (s.length-16))=s.drop (s.length-16))) (K (.tup [.str (y5 w key nonce (s.take (s.length-16))),.int 0]) []) (K (.tup [.str [],.int 801]) []))
        (K (.tup [.str [],.int 800]) []))
  |_,_=>False
end Go.Sym.Z
