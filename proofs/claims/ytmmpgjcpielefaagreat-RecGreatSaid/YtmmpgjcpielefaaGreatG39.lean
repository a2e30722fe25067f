/-
  Contracts of functions of the program, each said of symbolic values, and plain laws; no condition beyond each statement's own.
-/
import Derived.Test.YtmmpgjcpielefaaGreatG38
set_option linter.unusedSimpArgs false
set_option linter.unusedVariables false
namespace Go.Sym.Z
open Go Go.Proofs.Tryz Go.Sym.Lp Go.Sym.Cha Go.Sym.Sha Go.Sym.Hk
set_option maxRecDepth 100000
attribute [local irreducible] zaq exF kyF ivF y4 zas y5 inL ncF
def yg5:List (Nat×List PStep):= [(1,[⟨0,[]⟩,⟨1,[]⟩,⟨2,[]⟩,⟨3,[]⟩,⟨4,[0,1,2,3]⟩,⟨5,[0,1,2,3]⟩,⟨6,[0,1,2,3]⟩,⟨7,[0,1,2,3]⟩,⟨8,[0,1,2,3,4,5,6,7]⟩,⟨10,[0,1,2,3,4,5,6,7,8]⟩,⟨11,[0,1,2,3,4,5,6,7,8,10]⟩,⟨9,[0,1,2,3,4,5,6,7,10,11]⟩,⟨12,[]⟩,⟨13,[]⟩,⟨14,[]⟩,⟨15,[14]⟩,⟨16,[15]⟩,⟨17,[]⟩])]
def yhm:List (Nat×List PStep):= []
def yg9:List (Nat×List PStep):= []
def yg8:List (Nat×List PStep):= []
def zxf:Spec:=fun args hp K=>match args,hp with
  | [.ptr 0 0 0 [],.str h,.str s],[.mk t [.int w,.str key,.str iv,.int m]]=>Pre (zd2 w key iv m∧h.length≤100∧s.length≤20000)
      (zx (decide (16≤s.length∧zas w key (ncF iv m) h (s.take (s.length-16))=s.drop (s.length-16)))
        (K (.tup [.str (y5 w key (ncF iv m) (s.take (s.length-16))),.bool true]) [.mk t [.int w,.str key,.str iv,.int (m+1)]])
        (K (.tup [.str [],.bool false]) [.mk t [.int w,.str key,.str iv,.int m]]))
  |_,_=>False
theorem z8e:zm prog 95 zxf:=by
  refine zk y3 (zc zy3 (zc z87 zg)) rfl func95 rfl call95 (D:=yg5) ?_ ?_
  ·intro args hp K h
   unfold zxf at h
   split at h
   ·exact Nat.le_of_ble_eq_true rfl
   ·exact h.elim
  ·intro args hp K h
   unfold zxf at h
   split at h
   ·rename_i h' s t w key iv m
    obtain ⟨⟨hok,hh,hs⟩,h⟩:=zl h
    obtain ⟨ht,hf⟩:=zy h
    have hky:=zhb hok
    obtain ⟨hw,hkl,hiv,hm0,hm1⟩:=hok
    have hnl:=zsr iv m
    have hd:decide (zeg w key.length∧(ncF iv m).length=12∧h'.length≤65536∧(s.length:Int)-16≤65536)=true:=decide_eq_true ⟨hky,by rw [hnl,hiv],by omega,by omega⟩
    generalize e:decide (16≤s.length∧zas w key (ncF iv m) h' (s.take (s.length-16))=s.drop (s.length-16))=c at ht hf
    cases c
    ·have h:=hf rfl
     repeat ((conv=>whnf);first|refine zu ?_|refine zi ?_|refine zj ?_|refine zb ?_|refine zw (by first|exact hd|exact e) ?_|refine zo (by first|exact hd|exact e) ?_|refine zn (by first|exact hd|exact e) ?_)
     conv=>whnf
     exact ze [0] h
    ·have h:=ht rfl
     repeat ((conv=>whnf);first|refine zu ?_|refine zi ?_|refine zj ?_|refine zb ?_|refine zw (by first|exact hd|exact e) ?_|refine zo (by first|exact hd|exact e) ?_|refine zn (by first|exact hd|exact e) ?_)
     conv=>whnf
     exact ze [0] h
   ·exact h.elim
def hK (h:List UInt8):Int:=((h.getD 0 0).toNat:Int)
def hN (h:List UInt8):Int:=256*((h.getD 3 0).toNat:Int)+((h.getD 4 0).toNat:Int)
def hA (h:List UInt8) (keyed:Bool):Int:=
  if y6 (hK h) then (if (if keyed=true∧hK h=23 then 16640 else 16384)<hN h then 22 else if keyed=true∧(hK h=21∨hK h=22) then 10 else-1) else 10
def z5k:Spec:=fun args hp K=>match args,hp with
  | [.str h,.bool keyed],[]=>Pre (5≤h.length∧h.length<9223372036854775808)
      (zx (decide (hA h keyed= -1)) (K (.tup [.int (hK h),.int (hN h),.int (-1)]) []) (K (.tup [.int 0,.int 0,.int (hA h keyed)]) []))
  |_,_=>False
set_option maxHeartbeats 4000000 in
theorem yco:zm prog 69 z5k:=by
  refine zk y3 (zc yeg (zc zzu zg)) rfl func69 rfl call69 (D:=yhm) ?_ ?_
  ·intro args hp K h
   unfold z5k at h
   split at h
   ·exact Nat.le_of_ble_eq_true rfl
   ·exact h.elim
  ·intro args hp K h
   unfold z5k at h
   split at h
   ·rename_i x keyed
    obtain ⟨⟨hl,hl2⟩,h⟩:=zl h
    obtain ⟨ht,hf⟩:=zy h
    have hpu:0≤(3:Int)∧3+2≤(x.length:Int)∧x.length<9223372036854775808:=⟨by decide,by omega,hl2⟩
    have hkd:hK x=((x.getD (Int.toNat 0) 0).toNat:Int):=rfl
    have hnd:hN x=256*((x.getD (Int.toNat 3) 0).toNat:Int)+((x.getD (Int.toNat 3+1) 0).toNat:Int):=rfl
    have b0:=(x.getD (Int.toNat 0) 0).toNat_lt
    have b3:=(x.getD (Int.toNat 3) 0).toNat_lt
    have b4:=(x.getD (Int.toNat 3+1) 0).toNat_lt
    by_cases h1:y6 (hK x)
    ·have d1:decide (y6 ((x.getD (Int.toNat 0) 0).toNat:Int))=true:=decide_eq_true h1
     have h1':=h1
     unfold y6 at h1'
     by_cases hk:keyed=true
     ·subst hk
      by_cases h23:hK x=23
      ·have d21:decide (((x.getD (Int.toNat 0) 0).toNat:Int)=21)=false:=decide_eq_false (by omega)
       have d22:decide (((x.getD (Int.toNat 0) 0).toNat:Int)=22)=false:=decide_eq_false (by omega)
       by_cases h2:16640<hN x
       ·have hv:hA x true=22:=by unfold hA;rw [if_pos h1,if_pos (show true=true∧hK x=23 from ⟨rfl,h23⟩),if_pos h2]
        have h:=hf (decide_eq_false (by rw [hv];decide))
        rw [hv] at h
        repeat ((conv=>whnf);first|refine zu ?_|refine zi ?_|refine zj ?_|refine zb ?_|refine zw (by first|exact d1|(rw [d1];rfl)|exact d21|(rw [d21];rfl)|exact d22|(rw [d22];rfl)) ?_|refine zo (by first|exact d1|(rw [d1];rfl)|exact d21|(rw [d21];rfl)|exact d22|(rw [d22];rfl)) ?_|refine zn (by first|exact d1|(rw [d1];rfl)|exact d21|(rw [d21];rfl)|exact d22|(rw [d22];rfl)) ?_)
        conv=>whnf
        exact ze [] h
       ·have hv:hA x true= -1:=by unfold hA;rw [if_pos h1,if_pos (show true=true∧hK x=23 from ⟨rfl,h23⟩),if_neg h2,if_neg (fun h=>by omega)]
        have h:=ht (decide_eq_true hv)
        repeat ((conv=>whnf);first|refine zu ?_|refine zi ?_|refine zj ?_|refine zb ?_|refine zw (by first|exact d1|(rw [d1];rfl)|exact d21|(rw [d21];rfl)|exact d22|(rw [d22];rfl)) ?_|refine zo (by first|exact d1|(rw [d1];rfl)|exact d21|(rw [d21];rfl)|exact d22|(rw [d22];rfl)) ?_|refine zn (by first|exact d1|(rw [d1];rfl)|exact d21|(rw [d21];rfl)|exact d22|(rw [d22];rfl)) ?_)
        conv=>whnf
        exact ze [] h
      ·by_cases h2:16384<hN x
       ·have hv:hA x true=22:=by unfold hA;rw [if_pos h1,if_neg (show ¬(true=true∧hK x=23) from fun h=>h23 h.2),if_pos h2]
        have h:=hf (decide_eq_false (by rw [hv];decide))
        rw [hv] at h
        repeat ((conv=>whnf);first|refine zu ?_|refine zi ?_|refine zj ?_|refine zb ?_|refine zw (by first|exact d1|(rw [d1];rfl)|exact d21|(rw [d21];rfl)|exact d22|(rw [d22];rfl)) ?_|refine zo (by first|exact d1|(rw [d1];rfl)|exact d21|(rw [d21];rfl)|exact d22|(rw [d22];rfl)) ?_|refine zn (by first|exact d1|(rw [d1];rfl)|exact d21|(rw [d21];rfl)|exact d22|(rw [d22];rfl)) ?_)
        conv=>whnf
        exact ze [] h
       ·by_cases h21:hK x=21
        ·have d21:decide (((x.getD (Int.toNat 0) 0).toNat:Int)=21)=true:=decide_eq_true h21
         have hv:hA x true=10:=by unfold hA;rw [if_pos h1,if_neg (show ¬(true=true∧hK x=23) from fun h=>h23 h.2),if_neg h2,if_pos (show true=true∧(hK x=21∨hK x=22) from ⟨rfl,.inl h21⟩)]
         have h:=hf (decide_eq_false (by rw [hv];decide))
         rw [hv] at h
         repeat ((conv=>whnf);first|refine zu ?_|refine zi ?_|refine zj ?_|refine zb ?_|refine zw (by first|exact d1|(rw [d1];rfl)|exact d21|(rw [d21];rfl)|exact d22|(rw [d22];rfl)) ?_|refine zo (by first|exact d1|(rw [d1];rfl)|exact d21|(rw [d21];rfl)|exact d22|(rw [d22];rfl)) ?_|refine zn (by first|exact d1|(rw [d1];rfl)|exact d21|(rw [d21];rfl)|exact d22|(rw [d22];rfl)) ?_)
         conv=>whnf
         exact ze [] h
        ·have d21:decide (((x.getD (Int.toNat 0) 0).toNat:Int)=21)=false:=decide_eq_false (by omega)
         by_cases h22:hK x=22
         ·have d22:decide (((x.getD (Int.toNat 0) 0).toNat:Int)=22)=true:=decide_eq_true h22
          have hv:hA x true=10:=by unfold hA;rw [if_pos h1,if_neg (show ¬(true=true∧hK x=23) from fun h=>h23 h.2),if_neg h2,if_pos (show true=true∧(hK x=21∨hK x=22) from ⟨rfl,.inr h22⟩)]
          have h:=hf (decide_eq_false (by rw [hv];decide))
          rw [hv] at h
          repeat ((conv=>whnf);first|refine zu ?_|refine zi ?_|refine zj ?_|refine zb ?_|refine zw (by first|exact d1|(rw [d1];rfl)|exact d21|(rw [d21];rfl)|exact d22|(rw [d22];rfl)) ?_|refine zo (by first|exact d1|(rw [d1];rfl)|exact d21|(rw [d21];rfl)|exact d22|(rw [d22];rfl)) ?_|refine zn (by first|exact d1|(rw [d1];rfl)|exact d21|(rw [d21];rfl)|exact d22|(rw [d22];rfl)) ?_)
          conv=>whnf
          exact ze [] h
         ·have d22:decide (((x.getD (Int.toNat 0) 0).toNat:Int)=22)=false:=decide_eq_false (by omega)
          have hv:hA x true= -1:=by unfold hA;rw [if_pos h1,if_neg (show ¬(true=true∧hK x=23) from fun h=>h23 h.2),if_neg h2,if_neg (fun h=>by omega)]
          have h:=ht (decide_eq_true hv)
          repeat ((conv=>whnf);first|refine zu ?_|refine zi ?_|refine zj ?_|refine zb ?_|refine zw (by first|exact d1|(rw [d1];rfl)|exact d21|(rw [d21];rfl)|exact d22|(rw [d22];rfl)) ?_|refine zo (by first|exact d1|(rw [d1];rfl)|exact d21|(rw [d21];rfl)|exact d22|(rw [d22];rfl)) ?_|refine zn (by first|exact d1|(rw [d1];rfl)|exact d21|(rw [d21];rfl)|exact d22|(rw [d22];rfl)) ?_)
          conv=>whnf
          exact ze [] h
     ·have hk':keyed=false:=by cases keyed;rfl;exact absurd rfl hk
      subst hk'
      by_cases h2:16384<hN x
      ·have hv:hA x false=22:=by unfold hA;rw [if_pos h1,if_neg (show ¬(false=true∧hK x=23) from fun h=>Bool.noConfusion h.1),if_pos h2]
       have h:=hf (decide_eq_false (by rw [hv];decide))
       rw [hv] at h
       repeat ((conv=>whnf);first|refine zu ?_|refine zi ?_|refine zj ?_|refine zb ?_|refine zw (by first|exact d1|(rw [d1];rfl)|exact d21|(rw [d21];rfl)|exact d22|(rw [d22];rfl)) ?_|refine zo (by first|exact d1|(rw [d1];rfl)|exact d21|(rw [d21];rfl)|exact d22|(rw [d22];rfl)) ?_|refine zn (by first|exact d1|(rw [d1];rfl)|exact d21|(rw [d21];rfl)|exact d22|(rw [d22];rfl)) ?_)
       conv=>whnf
       exact ze [] h
      ·have hv:hA x false= -1:=by unfold hA;rw [if_pos h1,if_neg (show ¬(false=true∧hK x=23) from fun h=>Bool.noConfusion h.1),if_neg h2,if_neg (fun h=>Bool.noConfusion h.1)]
       have h:=ht (decide_eq_true hv)
       repeat ((conv=>whnf);first|refine zu ?_|refine zi ?_|refine zj ?_|refine zb ?_|refine zw (by first|exact d1|(rw [d1];rfl)|exact d21|(rw [d21];rfl)|exact d22|(rw [d22];rfl)) ?_|refine zo (by first|exact d1|(rw [d1];rfl)|exact d21|(rw [d21];rfl)|exact d22|(rw [d22];rfl)) ?_|refine zn (by first|exact d1|(rw [d1];rfl)|exact d21|(rw [d21];rfl)|exact d22|(rw [d22];rfl)) ?_)
       conv=>whnf
       exact ze [] h
    ·have d1:decide (y6 ((x.getD (Int.toNat 0) 0).toNat:Int))=false:=decide_eq_false h1
     have hv:hA x keyed=10:=by unfold hA;rw [if_neg h1]
     have hz:=hf (decide_eq_false (by rw [hv];decide))
     rw [hv] at hz
     have h1':=h1
     unfold y6 at h1'
     clear hv ht hf
     cases keyed
     ·repeat ((conv=>whnf);first|refine zu ?_|refine zi ?_|refine zj ?_|refine zb ?_|refine zw (by first|exact d1|(rw [d1];rfl)) ?_|refine zo (by first|exact d1|(rw [d1];rfl)) ?_|refine zn (by first|exact d1|(rw [d1];rfl)) ?_)
      conv=>whnf
      exact ze [] hz
     ·repeat ((conv=>whnf);first|refine zu ?_|refine zi ?_|refine zj ?_|refine zb ?_|refine zw (by first|exact d1|(rw [d1];rfl)) ?_|refine zo (by first|exact d1|(rw [d1];rfl)) ?_|refine zn (by first|exact d1|(rw [d1];rfl)) ?_)
      conv=>whnf
      exact ze [] hz
   ·exact h.elim
def clS:Spec:=fun args hp K=>match args,hp with
  | [.int i,.ptr 0 0 0 []],[.mk t [.str p]]=>Pre (0≤i∧i<(p.length:Int)) (K (.u8 (p.getD i.toNat 0)) [.mk t [.str p]])
  |_,_=>False
theorem yhp:zm prog 97 clS:=by
  refine zk y3 zg rfl func97 rfl call97 (D:=yg8) ?_ ?_
  ·intro args hp K h
   unfold clS at h
   split at h
   ·exact Nat.le_of_ble_eq_true rfl
   ·exact h.elim
  ·intro args hp K h
   unfold clS at h
   split at h
   ·rename_i i t p
    obtain ⟨⟨h0,h1⟩,h⟩:=zl h
    refine za ?_
    exact ze [0] h
   ·exact h.elim
def lnz (p:List UInt8):Nat→Nat
  |0=>0
  |n+1=>if p.getD n 0=0 then lnz p n else n+1
theorem zr9 (p:List UInt8): ∀n,lnz p n≤n
  |0=>Nat.le_refl _
  |n+1=>by
   simp only [lnz]
   split
   ·exact Nat.le_succ_of_le (zr9 p n)
   ·exact Nat.le_refl _
def iK (p:List UInt8):Int:=((p.getD (lnz p p.length-1) 0).toNat:Int)
def iA (p:List UInt8):Int:=if 16385<p.length then 22 else if lnz p p.length=0 then 10 else if iK p=21∨iK p=22∨iK p=23 then-1 else 10
structure Zs (p:List UInt8) where
  k:Nat
  hk:k≤p.length
  hz:lnz p p.length=lnz p k
def zx1:Spec:=fun args hp K=>match args,hp with
  | [.func 97 [.ptr 0 0 0 []],.int n],[.mk t [.str p]]=>Pre (n=(p.length:Int)∧p.length≤1000000)
      (zx (decide (iA p= -1)) (K (.tup [.int (iK p),.int ((lnz p p.length-1:Nat):Int),.int (-1)]) [.mk t [.str p]]) (K (.tup [.int 0,.int 0,.int (iA p)]) [.mk t [.str p]]))
  |_,_=>False
theorem z9d:zm prog 96 zx1:=by
  refine zk y3 (zc yhp zg) rfl func96 rfl call96 (D:=yg9) ?_ ?_
  ·intro args hp K h
   unfold zx1 at h
   split at h
   ·exact Nat.le_of_ble_eq_true rfl
   ·exact h.elim
  ·intro args hp K h
   unfold zx1 at h
   split at h
   ·rename_i n t p
    obtain ⟨⟨hn,hl⟩,h⟩:=zl h
    obtain ⟨ht,hf⟩:=zy h
    by_cases h1:16385<p.length
    ·have hv:iA p=22:=by unfold iA;rw [if_pos h1]
     have h:=hf (decide_eq_false (by rw [hv];decide))
     rw [hv] at h
     refine za ?_
     exact ze [0] h
    ·refine za ?_
     refine zp (Zs p) (fun z=>⟨[(0,.func 97 [.ptr 0 0 0 []]),(1,.int (z.k:Nat))],[.mk t [.str p]]⟩) (fun z=>z.k) ⟨p.length,Nat.le_refl _,rfl⟩ [0] ?_ ?_
     ·repeat ((conv=>whnf);refine zb ?_)
      conv=>whnf
      exact zh (congrArg SV.int hn)
     ·intro z
      have hzk:=z.hk
      have hzz:=z.hz
      by_cases h0:0<z.k
      ·have hpi:0≤((z.k:Nat):Int)-1∧((z.k:Nat):Int)-1<(p.length:Int):=⟨by omega,by omega⟩
       have hix:(((z.k:Nat):Int)-1).toNat=z.k-1:=by omega
       obtain ⟨j,hj⟩: ∃j,z.k=j+1:=⟨z.k-1,by omega⟩
       by_cases hb:p.getD (z.k-1) 0=0
       ·have hd:decide (p.getD (((z.k:Nat):Int)-1).toNat 0=UInt8.ofNat 0)=true:=decide_eq_true (by rw [hix];exact hb)
        have hnx:lnz p p.length=lnz p (z.k-1):=by
          rw [hzz,hj];rw [hj,Nat.add_sub_cancel] at hb;simp only [lnz];rw [if_pos hb];rfl
        repeat ((conv=>whnf);first|refine zu ?_|refine zi ?_|refine zj ?_|refine zb ?_|refine zw (by first|exact hd|(rw [hd];rfl)) ?_|refine zo (by first|exact hd|(rw [hd];rfl)) ?_|refine zn (by first|exact hd|(rw [hd];rfl)) ?_)
        conv=>whnf
        refine ⟨⟨z.k-1,by omega,hnx⟩,[0],by show z.k-1<z.k;omega,?_⟩
        repeat ((conv=>whnf);refine zb ?_)
        conv=>whnf
        exact zh (congrArg SV.int (show ((z.k:Nat):Int)-1=((z.k-1:Nat):Int) by omega))
       ·have hd:decide (p.getD (((z.k:Nat):Int)-1).toNat 0=UInt8.ofNat 0)=false:=decide_eq_false (by rw [hix];exact hb)
        have hlz:lnz p p.length=z.k:=by
          rw [hzz,hj];rw [hj,Nat.add_sub_cancel] at hb;simp only [lnz];rw [if_neg hb]
        have hik:iK p=((p.getD (((z.k:Nat):Int)-1).toNat 0).toNat:Int):=by unfold iK;rw [hlz,hix]
        have hkm:((lnz p p.length-1:Nat):Int)=((z.k:Nat):Int)-1:=by rw [hlz];omega
        by_cases hg:iK p=21∨iK p=22∨iK p=23
        ·have hv:iA p= -1:=by unfold iA;rw [if_neg h1,if_neg (by omega),if_pos hg]
         have h:=ht (decide_eq_true hv)
         rw [hkm,hik] at h
         rcases hg with hg|hg|hg
         ·repeat ((conv=>whnf);first|refine zu ?_|refine zi ?_|refine zj ?_|refine zb ?_|refine zw (by first|exact hd|(rw [hd];rfl)) ?_|refine zo (by first|exact hd|(rw [hd];rfl)) ?_|refine zn (by first|exact hd|(rw [hd];rfl)) ?_)
          conv=>whnf
          exact ze [0] h
         ·repeat ((conv=>whnf);first|refine zu ?_|refine zi ?_|refine zj ?_|refine zb ?_|refine zw (by first|exact hd|(rw [hd];rfl)) ?_|refine zo (by first|exact hd|(rw [hd];rfl)) ?_|refine zn (by first|exact hd|(rw [hd];rfl)) ?_)
          conv=>whnf
          exact ze [0] h
         ·repeat ((conv=>whnf);first|refine zu ?_|refine zi ?_|refine zj ?_|refine zb ?_|refine zw (by first|exact hd|(rw [hd];rfl)) ?_|refine zo (by first|exact hd|(rw [hd];rfl)) ?_|refine zn (by first|exact hd|(rw [hd];rfl)) ?_)
          conv=>whnf
          exact ze [0] h
        ·have hv:iA p=10:=by unfold iA;rw [if_neg h1,if_neg (by omega),if_neg hg]
         have h:=hf (decide_eq_false (by rw [hv];decide))
         rw [hv] at h
         repeat ((conv=>whnf);first|refine zu ?_|refine zi ?_|refine zj ?_|refine zb ?_|refine zw (by first|exact hd|(rw [hd];rfl)) ?_|refine zo (by first|exact hd|(rw [hd];rfl)) ?_|refine zn (by first|exact hd|(rw [hd];rfl)) ?_)
         conv=>whnf
         exact ze [0] h
      ·have hlz:lnz p p.length=0:=by rw [hzz,show z.k=0 by omega];rfl
       have hv:iA p=10:=by unfold iA;rw [if_neg h1,if_pos hlz]
       have h:=hf (decide_eq_false (by rw [hv];decide))
       rw [hv] at h
       refine za ?_
       exact ze [0] h
   ·exact h.elim
end Go.Sym.Z

namespace Go.Sym.Z
open Go Go.Proofs.Tryz Go.Sym.Lp Go.Sym.Cha Go.Sym.Sha Go.Sym.Hk
set_option maxRecDepth 100000
attribute [local irreducible] zaq exF kyF ivF y4 zas y5 inL ncF lnz iA
def yho:List (Nat×List PStep):= []
def yb4:List (Nat×TyI):= [(3,ty3),(4,ty4),(5,ty5),(9,ty9),(48,zd3),(51,zd6),(113,xu),(99,xm),(103,ze6),(68,zk3),(70,zkk),(104,zen),(74,zkg),(23,zkf),(43,zkx),(143,zgp)]
theorem z1b: ∀t i,y9 yb4 t=some i→yx prog t i:=(zd zda (zd zc8 (zd zc9 (zd zdf (zd zbq (zd zbr (zd zbh (zd zcx (zd zn5 (zd zsg (zd zs8 (zd zoz (zd zsa (zd zsu (zd zre (zd z19 zau))))))))))))))))
def zw8:Spec:=fun args hp K=>match args,hp with
  | [.ptr 0 0 0 [],.str h,.int kind,.str s],[.mk t0 [.int p,.nilptr,.nilptr,.str held,.int f]]=>K (.tup [.agg [.int kind,.str s],.int (-1)]) [.mk t0 [.int p,.nilptr,.nilptr,.str held,.int f]]
  | [.ptr 0 0 0 [],.str h,.int kind,.str s],[.mk t0 [.int p,.ptr 1 0 0 [],.nilptr,.str held,.int f],.mk tka [.int aw,.str akey,.str aiv,.int am]]=>K (.tup [.agg [.int kind,.str s],.int (-1)]) [.mk t0 [.int p,.ptr 1 0 0 [],.nilptr,.str held,.int f],.mk tka [.int aw,.str akey,.str aiv,.int am]]
  | [.ptr 0 0 0 [],.str h,.int kind,.str s],[.mk t0 [.int p,.nilptr,.ptr 1 0 0 [],.str held,.int f],.mk tkb [.int bw,.str bkey,.str biv,.int bm]]=>Pre (zd2 bw bkey biv bm∧h.length≤100∧s.length≤20000) (zx (decide (kind=20)) (K (.tup [.agg [.int kind,.str s],.int (-1)]) [.mk t0 [.int p,.nilptr,.ptr 1 0 0 [],.str held,.int f],.mk tkb [.int bw,.str bkey,.str biv,.int bm]]) (zx (decide (16≤s.length∧zas bw bkey (ncF biv bm) h (s.take (s.length-16))=s.drop (s.length-16))) (zx (decide (iA (y5 bw bkey (ncF biv bm) (s.take (s.length-16)))= -1)) (K (.tup [.agg [.int (iK (y5 bw bkey (ncF biv bm) (s.take (s.length-16)))),.str (((y5 bw bkey (ncF biv bm) (s.take (s.length-16)))).take (lnz (y5 bw bkey (ncF biv bm) (s.take (s.length-16))) (y5 bw bkey (ncF biv bm) (s.take (s.length-16))).length-1))],.int (-1)]) [.mk t0 [.int p,.nilptr,.ptr 1 0 0 [],.str held,.int f],.mk tkb [.int bw,.str bkey,.str biv,.int (bm+1)]]) (K (.tup [.agg [.int 0,.str []],.int (iA (y5 bw bkey (ncF biv bm) (s.take (s.length-16))))]) [.mk t0 [.int p,.nilptr,.ptr 1 0 0 [],.str held,.int f],.mk tkb [.int bw,.str bkey,.str biv,.int (bm+1)]])) (K (.tup [.agg [.int 0,.str []],.int 20]) [.mk t0 [.int p,.nilptr,.ptr 1 0 0 [],.str held,.int f],.mk tkb [.int bw,.str bkey,.str biv,.int bm]])))
  | [.ptr 0 0 0 [],.str h,.int kind,.str s],[.mk t0 [.int p,.ptr 1 0 0 [],.ptr 2 0 0 [],.str held,.int f],.mk tka [.int aw,.str akey,.str aiv,.int am],.mk tkb [.int bw,.str bkey,.str biv,.int bm]]=>Pre (zd2 bw bkey biv bm∧h.length≤100∧s.length≤20000) (zx (decide (kind=20)) (K (.tup [.agg [.int kind,.str s],.int (-1)]) [.mk t0 [.int p,.ptr 1 0 0 [],.ptr 2 0 0 [],.str held,.int f],.mk tka [.int aw,.str akey,.str aiv,.int am],.mk tkb [.int bw,.str bkey,.str biv,.int bm]]) (zx (decide (16≤s.length∧zas bw bkey (ncF biv bm) h (s.take (s.length-16))=s.drop (s.length-16))) (zx (decide (iA (y5 bw bkey (ncF biv bm) (s.take (s.length-16)))= -1)) (K (.tup [.agg [.int (iK (y5 bw bkey (ncF biv bm) (s.take (s.length-16)))),.str (((y5 bw bkey (ncF biv bm) (s.take (s.length-16)))).take (lnz (y5 bw bkey (ncF biv bm) (s.take (s.length-16))) (y5 bw bkey (ncF biv bm) (s.take (s.length-16))).length-1))],.int (-1)]) [.mk t0 [.int p,.ptr 1 0 0 [],.ptr 2 0 0 [],.str held,.int f],.mk tka [.int aw,.str akey,.str aiv,.int am],.mk tkb [.int bw,.str bkey,.str biv,.int (bm+1)]]) (K (.tup [.agg [.int 0,.str []],.int (iA (y5 bw bkey (ncF biv bm) (s.take (s.length-16))))]) [.mk t0 [.int p,.ptr 1 0 0 [],.ptr 2 0 0 [],.str held,.int f],.mk tka [.int aw,.str akey,.str aiv,.int am],.mk tkb [.int bw,.str bkey,.str biv,.int (bm+1)]])) (K (.tup [.agg [.int 0,.str []],.int 20]) [.mk t0 [.int p,.ptr 1 0 0 [],.ptr 2 0 0 [],.str held,.int f],.mk tka [.int aw,.str akey,.str aiv,.int am],.mk tkb [.int bw,.str bkey,.str biv,.int bm]])))
  |_,_=>False
set_option maxHeartbeats 4000000 in
theorem z8n:zm prog 70 zw8:=by
  refine zk z1b (zc z8e (zc z9d zg)) rfl func70 rfl call70 (D:=yho) ?_ ?_
  ·intro args hp K h
   unfold zw8 at h
   split at h
   ·exact Nat.le_of_ble_eq_true rfl
   ·exact Nat.le_of_ble_eq_true rfl
   ·exact Nat.le_of_ble_eq_true rfl
   ·exact Nat.le_of_ble_eq_true rfl
   ·exact h.elim
  ·intro args hp K h
   unfold zw8 at h
   split at h
   ·rename_i h' kind s t0 p held f
    refine za ?_
    exact ze [0] h
   ·rename_i h' kind s t0 p held f tka aw akey aiv am
    refine za ?_
    exact ze [0,1] h
   ·rename_i h' kind s t0 p held f tkb bw bkey biv bm
    obtain ⟨hpre,h⟩:=zl h
    obtain ⟨ht,hf⟩:=zy h
    by_cases hk:kind=20
    ·have h:=ht (decide_eq_true hk)
     refine za ?_
     exact ze [0,1] h
    ·have h:=hf (decide_eq_false hk)
     obtain ⟨ht,hf⟩:=zy h
     generalize e:decide (16≤s.length∧zas bw bkey (ncF biv bm) h' (s.take (s.length-16))=s.drop (s.length-16))=c at ht hf
     cases c
     ·have h:=hf rfl
      repeat ((conv=>whnf);first|refine zu ?_|refine zi ?_|refine zj ?_|refine zb ?_|refine zw (by first|exact e) ?_|refine zo (by first|exact e) ?_|refine zn (by first|exact e) ?_)
      conv=>whnf
      exact ze [0,1] h
     ·have h:=ht rfl
      obtain ⟨ht,hf⟩:=zy h
      have hpl:(y5 bw bkey (ncF biv bm) (s.take (s.length-16))).length≤20000:=by rw [xp,List.length_take];omega
      have hll:=zr9 (y5 bw bkey (ncF biv bm) (s.take (s.length-16))) (y5 bw bkey (ncF biv bm) (s.take (s.length-16))).length
      have hpi:((y5 bw bkey (ncF biv bm) (s.take (s.length-16))).length:Int)=((y5 bw bkey (ncF biv bm) (s.take (s.length-16))).length:Int)∧(y5 bw bkey (ncF biv bm) (s.take (s.length-16))).length≤1000000:=⟨rfl,by omega⟩
      generalize e2:decide (iA (y5 bw bkey (ncF biv bm) (s.take (s.length-16)))= -1)=c2 at ht hf
      cases c2
      ·have h:=hf rfl
       repeat ((conv=>whnf);first|refine zu ?_|refine zi ?_|refine zj ?_|refine zb ?_|refine zw (by first|exact e|exact e2) ?_|refine zo (by first|exact e|exact e2) ?_|refine zn (by first|exact e|exact e2) ?_)
       conv=>whnf
       exact ze [0,1] h
      ·have h:=ht rfl
       repeat ((conv=>whnf);first|refine zu ?_|refine zi ?_|refine zj ?_|refine zb ?_|refine zw (by first|exact e|exact e2) ?_|refine zo (by first|exact e|exact e2) ?_|refine zn (by first|exact e|exact e2) ?_)
       conv=>whnf
       exact ze [0,1] h
   ·rename_i h' kind s t0 p held f tka aw akey aiv am tkb bw bkey biv bm
    obtain ⟨hpre,h⟩:=zl h
    obtain ⟨ht,hf⟩:=zy h
    by_cases hk:kind=20
    ·have h:=ht (decide_eq_true hk)
     refine za ?_
     exact ze [0,1,2] h
    ·have h:=hf (decide_eq_false hk)
     obtain ⟨ht,hf⟩:=zy h
     generalize e:decide (16≤s.length∧zas bw bkey (ncF biv bm) h' (s.take (s.length-16))=s.drop (s.length-16))=c at ht hf
     cases c
     ·have h:=hf rfl
      repeat ((conv=>whnf);first|refine zu ?_|refine zi ?_|refine zj ?_|refine zb ?_|refine zw (by first|exact e) ?_|refine zo (by first|exact e) ?_|refine zn (by first|exact e) ?_)
      conv=>whnf
      exact ze [0,1,2] h
     ·have h:=ht rfl
      obtain ⟨ht,hf⟩:=zy h
      have hpl:(y5 bw bkey (ncF biv bm) (s.take (s.length-16))).length≤20000:=by rw [xp,List.length_take];omega
      have hll:=zr9 (y5 bw bkey (ncF biv bm) (s.take (s.length-16))) (y5 bw bkey (ncF biv bm) (s.take (s.length-16))).length
      have hpi:((y5 bw bkey (ncF biv bm) (s.take (s.length-16))).length:Int)=((y5 bw bkey (ncF biv bm) (s.take (s.length-16))).length:Int)∧(y5 bw bkey (ncF biv bm) (s.take (s.length-16))).length≤1000000:=⟨rfl,by omega⟩
      generalize e2:decide (iA (y5 bw bkey (ncF biv bm) (s.take (s.length-16)))= -1)=c2 at ht hf
      cases c2
      ·have h:=hf rfl
       repeat ((conv=>whnf);first|refine zu ?_|refine zi ?_|refine zj ?_|refine zb ?_|refine zw (by first|exact e|exact e2) ?_|refine zo (by first|exact e|exact e2) ?_|refine zn (by first|exact e|exact e2) ?_)
       conv=>whnf
       exact ze [0,1,2] h
      ·have h:=ht rfl
       repeat ((conv=>whnf);first|refine zu ?_|refine zi ?_|refine zj ?_|refine zb ?_|refine zw (by first|exact e|exact e2) ?_|refine zo (by first|exact e|exact e2) ?_|refine zn (by first|exact e|exact e2) ?_)
       conv=>whnf
       exact ze [0,1,2] h
   ·exact h.elim
end Go.Sym.Z
