/-
  Contracts of functions of the program, each said of symbolic values, and plain laws; no condition beyond each statement's own.
-/
import Derived.Test.YtmmpgjcpielefaaG14
set_option linter.unusedSimpArgs false
set_option linter.unusedVariables false
namespace Go.Sym.A
open Go Go.Proofs.Try Go.Sym.Lp Go.Sym.Cha Go.Sym.Sha Go.Sym.Hk
set_option maxRecDepth 100000
attribute [local irreducible] zb8 exF kyF ivF xl zap yv inL ncF
def z7s:List (Nat×List PStep):= [(1,[⟨0,[]⟩,⟨1,[]⟩,⟨2,[]⟩,⟨3,[]⟩,⟨4,[0,1,2,3]⟩,⟨5,[0,1,2,3]⟩,⟨6,[0,1,2,3]⟩,⟨7,[0,1,2,3]⟩,⟨8,[0,1,2,3,4,5,6,7]⟩,⟨10,[0,1,2,3,4,5,6,7,8]⟩,⟨11,[0,1,2,3,4,5,6,7,8,10]⟩,⟨9,[0,1,2,3,4,5,6,7,10,11]⟩,⟨12,[]⟩,⟨13,[]⟩,⟨14,[]⟩,⟨15,[14]⟩,⟨16,[15]⟩,⟨17,[]⟩])]
def z9t:List (Nat×List PStep):= []
def z7b:List (Nat×List PStep):= []
def z6a:List (Nat×List PStep):= []
def zsc:Spec:=fun args hp K=>match args,hp with
  | [.ptr 0 0 0 [],.str h,.str s],[.mk t [.int w,.str key,.str iv,.int m]]=>Pre (za7 w key iv m∧h.length≤100∧s.length≤20000)
      (zr (decide (16≤s.length∧zap w key (ncF iv m) h (s.take (s.length-16))=s.drop (s.length-16)))
        (K (.tup [.str (yv w key (ncF iv m) (s.take (s.length-16))),.bool true]) [.mk t [.int w,.str key,.str iv,.int (m+1)]])
        (K (.tup [.str [],.bool false]) [.mk t [.int w,.str key,.str iv,.int m]]))
  |_,_=>False
theorem z1b:zp prog 108 zsc:=by
  refine zo yi (zd zvf (zd z2o zk)) rfl func108 rfl call108 (D:=z7s) ?_ ?_
  ·intro args hp K h
   unfold zsc at h
   split at h
   ·exact Nat.le_of_ble_eq_true rfl
   ·exact h.elim
  ·intro args hp K h
   unfold zsc at h
   split at h
   ·rename_i h' s t w key iv m
    obtain ⟨⟨hok,hh,hs⟩,h⟩:=zl h
    obtain ⟨ht,hf⟩:=zu h
    have hky:=zkl hok
    obtain ⟨hw,hkl,hiv,hm0,hm1⟩:=hok
    have hnl:=zn2 iv m
    have hd:decide (zf9 w key.length∧(ncF iv m).length=12∧h'.length≤65536∧(s.length:Int)-16≤65536)=true:=decide_eq_true ⟨hky,by rw [hnl,hiv],by omega,by omega⟩
    generalize e:decide (16≤s.length∧zap w key (ncF iv m) h' (s.take (s.length-16))=s.drop (s.length-16))=c at ht hf
    cases c
    ·have h:=hf rfl
     repeat ((conv=>whnf);first|refine zn ?_|refine zf ?_|refine zg ?_|refine za ?_|refine zq (by first|exact hd|exact e) ?_|refine zi (by first|exact hd|exact e) ?_|refine zj (by first|exact hd|exact e) ?_)
     conv=>whnf
     exact ze (hp':= [.mk t [.int w,.str key,.str iv,.int m]]) [0] h
    ·have h:=ht rfl
     repeat ((conv=>whnf);first|refine zn ?_|refine zf ?_|refine zg ?_|refine za ?_|refine zq (by first|exact hd|exact e) ?_|refine zi (by first|exact hd|exact e) ?_|refine zj (by first|exact hd|exact e) ?_)
     conv=>whnf
     exact ze (hp':= [.mk t [.int w,.str key,.str iv,.int (m+1)]]) [0] h
   ·exact h.elim
def hK (h:List UInt8):Int:=((h.getD 0 0).toNat:Int)
def hN (h:List UInt8):Int:=256*((h.getD 3 0).toNat:Int)+((h.getD 4 0).toNat:Int)
def hA (h:List UInt8) (keyed:Bool):Int:=
  if zw (hK h) then (if (if keyed=true∧hK h=23 then 16640 else 16384)<hN h then 22 else if keyed=true∧(hK h=21∨hK h=22) then 10 else-1) else 10
def zy4:Spec:=fun args hp K=>match args,hp with
  | [.str h,.bool keyed],[]=>Pre (5≤h.length∧h.length<9223372036854775808)
      (zr (decide (hA h keyed= -1)) (K (.tup [.int (hK h),.int (hN h),.int (-1)]) []) (K (.tup [.int 0,.int 0,.int (hA h keyed)]) []))
  |_,_=>False
set_option maxHeartbeats 4000000 in
theorem z5m:zp prog 82 zy4:=by
  refine zo yi (zd z68 (zd zt5 zk)) rfl func82 rfl call82 (D:=z9t) ?_ ?_
  ·intro args hp K h
   unfold zy4 at h
   split at h
   ·exact Nat.le_of_ble_eq_true rfl
   ·exact h.elim
  ·intro args hp K h
   unfold zy4 at h
   split at h
   ·rename_i x keyed
    obtain ⟨⟨hl,hl2⟩,h⟩:=zl h
    obtain ⟨ht,hf⟩:=zu h
    have hpu:0≤(3:Int)∧3+2≤(x.length:Int)∧x.length<9223372036854775808:=⟨by decide,by omega,hl2⟩
    have hkd:hK x=((x.getD (Int.toNat 0) 0).toNat:Int):=rfl
    have hnd:hN x=256*((x.getD (Int.toNat 3) 0).toNat:Int)+((x.getD (Int.toNat 3+1) 0).toNat:Int):=rfl
    have b0:=(x.getD (Int.toNat 0) 0).toNat_lt
    have b3:=(x.getD (Int.toNat 3) 0).toNat_lt
    have b4:=(x.getD (Int.toNat 3+1) 0).toNat_lt
    by_cases h1:zw (hK x)
    ·have d1:decide (zw ((x.getD (Int.toNat 0) 0).toNat:Int))=true:=decide_eq_true h1
     have h1':=h1
     unfold zw at h1'
     by_cases hk:keyed=true
     ·subst hk
      by_cases h23:hK x=23
      ·have d21:decide (((x.getD (Int.toNat 0) 0).toNat:Int)=21)=false:=decide_eq_false (by omega)
       have d22:decide (((x.getD (Int.toNat 0) 0).toNat:Int)=22)=false:=decide_eq_false (by omega)
       by_cases h2:16640<hN x
       ·have hv:hA x true=22:=by unfold hA;rw [if_pos h1,if_pos (show true=true∧hK x=23 from ⟨rfl,h23⟩),if_pos h2]
        have h:=hf (decide_eq_false (by rw [hv];decide))
        rw [hv] at h
        repeat ((conv=>whnf);first|refine zn ?_|refine zf ?_|refine zg ?_|refine za ?_|refine zq (by first|exact d1|(rw [d1];rfl)|exact d21|(rw [d21];rfl)|exact d22|(rw [d22];rfl)) ?_|refine zi (by first|exact d1|(rw [d1];rfl)|exact d21|(rw [d21];rfl)|exact d22|(rw [d22];rfl)) ?_|refine zj (by first|exact d1|(rw [d1];rfl)|exact d21|(rw [d21];rfl)|exact d22|(rw [d22];rfl)) ?_)
        conv=>whnf
        exact ze (hp':= []) [] h
       ·have hv:hA x true= -1:=by unfold hA;rw [if_pos h1,if_pos (show true=true∧hK x=23 from ⟨rfl,h23⟩),if_neg h2,if_neg (fun h=>by omega)]
        have h:=ht (decide_eq_true hv)
        repeat ((conv=>whnf);first|refine zn ?_|refine zf ?_|refine zg ?_|refine za ?_|refine zq (by first|exact d1|(rw [d1];rfl)|exact d21|(rw [d21];rfl)|exact d22|(rw [d22];rfl)) ?_|refine zi (by first|exact d1|(rw [d1];rfl)|exact d21|(rw [d21];rfl)|exact d22|(rw [d22];rfl)) ?_|refine zj (by first|exact d1|(rw [d1];rfl)|exact d21|(rw [d21];rfl)|exact d22|(rw [d22];rfl)) ?_)
        conv=>whnf
        exact ze (hp':= []) [] h
      ·by_cases h2:16384<hN x
       ·have hv:hA x true=22:=by unfold hA;rw [if_pos h1,if_neg (show ¬(true=true∧hK x=23) from fun h=>h23 h.2),if_pos h2]
        have h:=hf (decide_eq_false (by rw [hv];decide))
        rw [hv] at h
        repeat ((conv=>whnf);first|refine zn ?_|refine zf ?_|refine zg ?_|refine za ?_|refine zq (by first|exact d1|(rw [d1];rfl)|exact d21|(rw [d21];rfl)|exact d22|(rw [d22];rfl)) ?_|refine zi (by first|exact d1|(rw [d1];rfl)|exact d21|(rw [d21];rfl)|exact d22|(rw [d22];rfl)) ?_|refine zj (by first|exact d1|(rw [d1];rfl)|exact d21|(rw [d21];rfl)|exact d22|(rw [d22];rfl)) ?_)
        conv=>whnf
        exact ze (hp':= []) [] h
       ·by_cases h21:hK x=21
        ·have d21:decide (((x.getD (Int.toNat 0) 0).toNat:Int)=21)=true:=decide_eq_true h21
         have hv:hA x true=10:=by unfold hA;rw [if_pos h1,if_neg (show ¬(true=true∧hK x=23) from fun h=>h23 h.2),if_neg h2,if_pos (show true=true∧(hK x=21∨hK x=22) from ⟨rfl,.inl h21⟩)]
         have h:=hf (decide_eq_false (by rw [hv];decide))
         rw [hv] at h
         repeat ((conv=>whnf);first|refine zn ?_|refine zf ?_|refine zg ?_|refine za ?_|refine zq (by first|exact d1|(rw [d1];rfl)|exact d21|(rw [d21];rfl)|exact d22|(rw [d22];rfl)) ?_|refine zi (by first|exact d1|(rw [d1];rfl)|exact d21|(rw [d21];rfl)|exact d22|(rw [d22];rfl)) ?_|refine zj (by first|exact d1|(rw [d1];rfl)|exact d21|(rw [d21];rfl)|exact d22|(rw [d22];rfl)) ?_)
         conv=>whnf
         exact ze (hp':= []) [] h
        ·have d21:decide (((x.getD (Int.toNat 0) 0).toNat:Int)=21)=false:=decide_eq_false (by omega)
         by_cases h22:hK x=22
         ·have d22:decide (((x.getD (Int.toNat 0) 0).toNat:Int)=22)=true:=decide_eq_true h22
          have hv:hA x true=10:=by unfold hA;rw [if_pos h1,if_neg (show ¬(true=true∧hK x=23) from fun h=>h23 h.2),if_neg h2,if_pos (show true=true∧(hK x=21∨hK x=22) from ⟨rfl,.inr h22⟩)]
          have h:=hf (decide_eq_false (by rw [hv];decide))
          rw [hv] at h
          repeat ((conv=>whnf);first|refine zn ?_|refine zf ?_|refine zg ?_|refine za ?_|refine zq (by first|exact d1|(rw [d1];rfl)|exact d21|(rw [d21];rfl)|exact d22|(rw [d22];rfl)) ?_|refine zi (by first|exact d1|(rw [d1];rfl)|exact d21|(rw [d21];rfl)|exact d22|(rw [d22];rfl)) ?_|refine zj (by first|exact d1|(rw [d1];rfl)|exact d21|(rw [d21];rfl)|exact d22|(rw [d22];rfl)) ?_)
          conv=>whnf
          exact ze (hp':= []) [] h
         ·have d22:decide (((x.getD (Int.toNat 0) 0).toNat:Int)=22)=false:=decide_eq_false (by omega)
          have hv:hA x true= -1:=by unfold hA;rw [if_pos h1,if_neg (show ¬(true=true∧hK x=23) from fun h=>h23 h.2),if_neg h2,if_neg (fun h=>by omega)]
          have h:=ht (decide_eq_true hv)
          repeat ((conv=>whnf);first|refine zn ?_|refine zf ?_|refine zg ?_|refine za ?_|refine zq (by first|exact d1|(rw [d1];rfl)|exact d21|(rw [d21];rfl)|exact d22|(rw [d22];rfl)) ?_|refine zi (by first|exact d1|(rw [d1];rfl)|exact d21|(rw [d21];rfl)|exact d22|(rw [d22];rfl)) ?_|refine zj (by first|exact d1|(rw [d1];rfl)|exact d21|(rw [d21];rfl)|exact d22|(rw [d22];rfl)) ?_)
          conv=>whnf
          exact ze (hp':= []) [] h
     ·have hk':keyed=false:=by cases keyed;rfl;exact absurd rfl hk
      subst hk'
      by_cases h2:16384<hN x
      ·have hv:hA x false=22:=by unfold hA;rw [if_pos h1,if_neg (show ¬(false=true∧hK x=23) from fun h=>Bool.noConfusion h.1),if_pos h2]
       have h:=hf (decide_eq_false (by rw [hv];decide))
       rw [hv] at h
       repeat ((conv=>whnf);first|refine zn ?_|refine zf ?_|refine zg ?_|refine za ?_|refine zq (by first|exact d1|(rw [d1];rfl)|exact d21|(rw [d21];rfl)|exact d22|(rw [d22];rfl)) ?_|refine zi (by first|exact d1|(rw [d1];rfl)|exact d21|(rw [d21];rfl)|exact d22|(rw [d22];rfl)) ?_|refine zj (by first|exact d1|(rw [d1];rfl)|exact d21|(rw [d21];rfl)|exact d22|(rw [d22];rfl)) ?_)
       conv=>whnf
       exact ze (hp':= []) [] h
      ·have hv:hA x false= -1:=by unfold hA;rw [if_pos h1,if_neg (show ¬(false=true∧hK x=23) from fun h=>Bool.noConfusion h.1),if_neg h2,if_neg (fun h=>Bool.noConfusion h.1)]
       have h:=ht (decide_eq_true hv)
       repeat ((conv=>whnf);first|refine zn ?_|refine zf ?_|refine zg ?_|refine za ?_|refine zq (by first|exact d1|(rw [d1];rfl)|exact d21|(rw [d21];rfl)|exact d22|(rw [d22];rfl)) ?_|refine zi (by first|exact d1|(rw [d1];rfl)|exact d21|(rw [d21];rfl)|exact d22|(rw [d22];rfl)) ?_|refine zj (by first|exact d1|(rw [d1];rfl)|exact d21|(rw [d21];rfl)|exact d22|(rw [d22];rfl)) ?_)
       conv=>whnf
       exact ze (hp':= []) [] h
    ·have d1:decide (zw ((x.getD (Int.toNat 0) 0).toNat:Int))=false:=decide_eq_false h1
     have hv:hA x keyed=10:=by unfold hA;rw [if_neg h1]
     have hz:=hf (decide_eq_false (by rw [hv];decide))
     rw [hv] at hz
     have h1':=h1
     unfold zw at h1'
     clear hv ht hf
     cases keyed
     ·repeat ((conv=>whnf);first|refine zn ?_|refine zf ?_|refine zg ?_|refine za ?_|refine zq (by first|exact d1|(rw [d1];rfl)) ?_|refine zi (by first|exact d1|(rw [d1];rfl)) ?_|refine zj (by first|exact d1|(rw [d1];rfl)) ?_)
      conv=>whnf
      exact ze (hp':= []) [] hz
     ·repeat ((conv=>whnf);first|refine zn ?_|refine zf ?_|refine zg ?_|refine za ?_|refine zq (by first|exact d1|(rw [d1];rfl)) ?_|refine zi (by first|exact d1|(rw [d1];rfl)) ?_|refine zj (by first|exact d1|(rw [d1];rfl)) ?_)
      conv=>whnf
      exact ze (hp':= []) [] hz
   ·exact h.elim
def clS:Spec:=fun args hp K=>match args,hp with
  | [.int i,.ptr 0 0 0 []],[.mk t [.str p]]=>Pre (0≤i∧i<(p.length:Int)) (K (.u8 (p.getD i.toNat 0)) [.mk t [.str p]])
  |_,_=>False
theorem z81:zp prog 110 clS:=by
  refine zo yi zk rfl func110 rfl call110 (D:=z6a) ?_ ?_
  ·intro args hp K h
   unfold clS at h
   split at h
   ·exact Nat.le_of_ble_eq_true rfl
   ·exact h.elim
  ·intro args hp K h
   unfold clS at h
   split at h
   ·rename_i i t p
    obtain ⟨⟨h0,h1⟩,h⟩:=zl h
    refine wk ?_
    exact ze (hp':= [.mk t [.str p]]) [0] h
   ·exact h.elim
def lnz (p:List UInt8):Nat→Nat
  |0=>0
  |n+1=>if p.getD n 0=0 then lnz p n else n+1
theorem zso (p:List UInt8): ∀n,lnz p n≤n
  |0=>Nat.le_refl _
  |n+1=>by
   simp only [lnz]
   split
   ·exact Nat.le_succ_of_le (zso p n)
   ·exact Nat.le_refl _
def iK (p:List UInt8):Int:=((p.getD (lnz p p.length-1) 0).toNat:Int)
def iA (p:List UInt8):Int:=if 16385<p.length then 22 else if lnz p p.length=0 then 10 else if iK p=21∨iK p=22∨iK p=23 then-1 else 10
structure Zs (p:List UInt8) where
  k:Nat
  hk:k≤p.length
  hz:lnz p p.length=lnz p k
def zsr:Spec:=fun args hp K=>match args,hp with
  | [.func 110 [.ptr 0 0 0 []],.int n],[.mk t [.str p]]=>Pre (n=(p.length:Int)∧p.length≤1000000)
      (zr (decide (iA p= -1)) (K (.tup [.int (iK p),.int ((lnz p p.length-1:Nat):Int),.int (-1)]) [.mk t [.str p]]) (K (.tup [.int 0,.int 0,.int (iA p)]) [.mk t [.str p]]))
  |_,_=>False
theorem z2b:zp prog 109 zsr:=by
  refine zo yi (zd z81 zk) rfl func109 rfl call109 (D:=z7b) ?_ ?_
  ·intro args hp K h
   unfold zsr at h
   split at h
   ·exact Nat.le_of_ble_eq_true rfl
   ·exact h.elim
  ·intro args hp K h
   unfold zsr at h
   split at h
   ·rename_i n t p
    obtain ⟨⟨hn,hl⟩,h⟩:=zl h
    obtain ⟨ht,hf⟩:=zu h
    by_cases h1:16385<p.length
    ·have hv:iA p=22:=by unfold iA;rw [if_pos h1]
     have h:=hf (decide_eq_false (by rw [hv];decide))
     rw [hv] at h
     refine wk ?_
     exact ze (hp':= [.mk t [.str p]]) [0] h
    ·refine wk ?_
     refine zt (Zs p) (fun z=>⟨[(0,.func 110 [.ptr 0 0 0 []]),(1,.int (z.k:Nat))],[.mk t [.str p]]⟩) (fun z=>z.k) ⟨p.length,Nat.le_refl _,rfl⟩ [0] ?_ ?_
     ·repeat ((conv=>whnf);refine za ?_)
      conv=>whnf
      refine zh (congrArg SV.int hn) ?_
      repeat ((conv=>whnf);refine za ?_)
      exact trivial
     ·intro z
      have hzk:=z.hk
      have hzz:=z.hz
      by_cases h0:0<z.k
      ·have hpi:0≤((z.k:Nat):Int)-1∧((z.k:Nat):Int)-1<(p.length:Int):=⟨by omega,by omega⟩
       have hix:(((z.k:Nat):Int)-1).toNat=z.k-1:=by omega
       obtain ⟨j,hj⟩: ∃j,z.k=j+1:=⟨z.k-1,by omega⟩
       by_cases hb:p.getD (z.k-1) 0=0
       ·have hd:decide (p.getD (((z.k:Nat):Int)-1).toNat 0=UInt8.ofNat 0)=true:=decide_eq_true (by rw [hix];exact hb)
        have hnx:lnz p p.length=lnz p (z.k-1):=by
          rw [hzz,hj];rw [hj,Nat.add_sub_cancel] at hb;simp only [lnz];rw [if_pos hb];rfl
        repeat ((conv=>whnf);first|refine zn ?_|refine zf ?_|refine zg ?_|refine za ?_|refine zq (by first|exact hd|(rw [hd];rfl)) ?_|refine zi (by first|exact hd|(rw [hd];rfl)) ?_|refine zj (by first|exact hd|(rw [hd];rfl)) ?_)
        conv=>whnf
        refine ⟨⟨z.k-1,by omega,hnx⟩,[0],by show z.k-1<z.k;omega,?_⟩
        repeat ((conv=>whnf);refine za ?_)
        conv=>whnf
        refine zh (congrArg SV.int (show ((z.k:Nat):Int)-1=((z.k-1:Nat):Int) by omega)) ?_
        repeat ((conv=>whnf);refine za ?_)
        exact trivial
       ·have hd:decide (p.getD (((z.k:Nat):Int)-1).toNat 0=UInt8.ofNat 0)=false:=decide_eq_false (by rw [hix];exact hb)
        have hlz:lnz p p.length=z.k:=by
          rw [hzz,hj];rw [hj,Nat.add_sub_cancel] at hb;simp only [lnz];rw [if_neg hb]
        have hik:iK p=((p.getD (((z.k:Nat):Int)-1).toNat 0).toNat:Int):=by unfold iK;rw [hlz,hix]
        have hkm:((lnz p p.length-1:Nat):Int)=((z.k:Nat):Int)-1:=by rw [hlz];omega
        by_cases hg:iK p=21∨iK p=22∨iK p=23
        ·have hv:iA p= -1:=by unfold iA;rw [if_neg h1,if_neg (by omega),if_pos hg]
         have h:=ht (decide_eq_true hv)
         rw [hkm,hik] at h
         rcases hg with hg|hg|hg
         ·repeat ((conv=>whnf);first|refine zn ?_|refine zf ?_|refine zg ?_|refine za ?_|refine zq (by first|exact hd|(rw [hd];rfl)) ?_|refine zi (by first|exact hd|(rw [hd];rfl)) ?_|refine zj (by first|exact hd|(rw [hd];rfl)) ?_)
          conv=>whnf
          exact ze (hp':= [.mk t [.str p]]) [0] h
         ·repeat ((conv=>whnf);first|refine zn ?_|refine zf ?_|refine zg ?_|refine za ?_|refine zq (by first|exact hd|(rw [hd];rfl)) ?_|refine zi (by first|exact hd|(rw [hd];rfl)) ?_|refine zj (by first|exact hd|(rw [hd];rfl)) ?_)
          conv=>whnf
          exact ze (hp':= [.mk t [.str p]]) [0] h
         ·repeat ((conv=>whnf);first|refine zn ?_|refine zf ?_|refine zg ?_|refine za ?_|refine zq (by first|exact hd|(rw [hd];rfl)) ?_|refine zi (by first|exact hd|(rw [hd];rfl)) ?_|refine zj (by first|exact hd|(rw [hd];rfl)) ?_)
          conv=>whnf
          exact ze (hp':= [.mk t [.str p]]) [0] h
        ·have hv:iA p=10:=by unfold iA;rw [if_neg h1,if_neg (by omega),if_neg hg]
         have h:=hf (decide_eq_false (by rw [hv];decide))
         rw [hv] at h
         repeat ((conv=>whnf);first|refine zn ?_|refine zf ?_|refine zg ?_|refine za ?_|refine zq (by first|exact hd|(rw [hd];rfl)) ?_|refine zi (by first|exact hd|(rw [hd];rfl)) ?_|refine zj (by first|exact hd|(rw [hd];rfl)) ?_)
         conv=>whnf
         exact ze (hp':= [.mk t [.str p]]) [0] h
      ·have hlz:lnz p p.length=0:=by rw [hzz,show z.k=0 by omega];rfl
       have hv:iA p=10:=by unfold iA;rw [if_neg h1,if_pos hlz]
       have h:=hf (decide_eq_false (by rw [hv];decide))
       rw [hv] at h
       refine wk ?_
       exact ze (hp':= [.mk t [.str p]]) [0] h
   ·exact h.elim
end Go.Sym.A

namespace Go.Sym.A
open Go Go.Proofs.Try Go.Sym.Lp Go.Sym.Cha Go.Sym.Sha Go.Sym.Hk
set_option maxRecDepth 100000
attribute [local irreducible] zb8 exF kyF ivF xl zap yv inL ncF lnz iA
def z9g:List (Nat×List PStep):= []
def z49:List (Nat×TyI):= [(3,ty3),(4,ty4),(5,ty5),(9,ty9),(34,zdh),(35,zdd),(93,zb7),(91,x4),(130,zdp),(82,zh7),(84,zid),(134,zdu),(88,zh9),(43,ziq),(50,zec),(163,ze6)]
theorem zwp: ∀t i,yw z49 t=some i→yp prog t i:=(zc ty3_ok (zc zc3 (zc zcz (zc ty9_ok (zc zbh (zc zbl (zc zcx (zc zcy (zc zlk (zc zo7 (zc zo1 (zc zkb (zc zod (zc znu (zc zpw (zc zzc zao))))))))))))))))
def zsk:Spec:=fun args hp K=>match args,hp with
  | [.ptr 0 0 0 [],.str h,.int kind,.str s],[.mk t0 [.int p,.nilptr,.nilptr,.str held,.int f]]=>K (.tup [.agg [.int kind,.str s],.int (-1)]) [.mk t0 [.int p,.nilptr,.nilptr,.str held,.int f]]
  | [.ptr 0 0 0 [],.str h,.int kind,.str s],[.mk t0 [.int p,.ptr 1 0 0 [],.nilptr,.str held,.int f],.mk tka [.int aw,.str akey,.str aiv,.int am]]=>K (.tup [.agg [.int kind,.str s],.int (-1)]) [.mk t0 [.int p,.ptr 1 0 0 [],.nilptr,.str held,.int f],.mk tka [.int aw,.str akey,.str aiv,.int am]]
  | [.ptr 0 0 0 [],.str h,.int kind,.str s],[.mk t0 [.int p,.nilptr,.ptr 1 0 0 [],.str held,.int f],.mk tkb [.int bw,.str bkey,.str biv,.int bm]]=>Pre (za7 bw bkey biv bm∧h.length≤100∧s.length≤20000) (zr (decide (kind=20)) (K (.tup [.agg [.int kind,.str s],.int (-1)]) [.mk t0 [.int p,.nilptr,.ptr 1 0 0 [],.str held,.int f],.mk tkb [.int bw,.str bkey,.str biv,.int bm]]) (zr (decide (16≤s.length∧zap bw bkey (ncF biv bm) h (s.take (s.length-16))=s.drop (s.length-16))) (zr (decide (iA (yv bw bkey (ncF biv bm) (s.take (s.length-16)))= -1)) (K (.tup [.agg [.int (iK (yv bw bkey (ncF biv bm) (s.take (s.length-16)))),.str (((yv bw bkey (ncF biv bm) (s.take (s.length-16)))).take (lnz (yv bw bkey (ncF biv bm) (s.take (s.length-16))) (yv bw bkey (ncF biv bm) (s.take (s.length-16))).length-1))],.int (-1)]) [.mk t0 [.int p,.nilptr,.ptr 1 0 0 [],.str held,.int f],.mk tkb [.int bw,.str bkey,.str biv,.int (bm+1)]]) (K (.tup [.agg [.int 0,.str []],.int (iA (yv bw bkey (ncF biv bm) (s.take (s.length-16))))]) [.mk t0 [.int p,.nilptr,.ptr 1 0 0 [],.str held,.int f],.mk tkb [.int bw,.str bkey,.str biv,.int (bm+1)]])) (K (.tup [.agg [.int 0,.str []],.int 20]) [.mk t0 [.int p,.nilptr,.ptr 1 0 0 [],.str held,.int f],.mk tkb [.int bw,.str bkey,.str biv,.int bm]])))
  | [.ptr 0 0 0 [],.str h,.int kind,.str s],[.mk t0 [.int p,.ptr 1 0 0 [],.ptr 2 0 0 [],.str held,.int f],.mk tka [.int aw,.str akey,.str aiv,.int am],.mk tkb [.int bw,.str bkey,.str biv,.int bm]]=>Pre (za7 bw bkey biv bm∧h.length≤100∧s.length≤20000) (zr (decide (kind=20)) (K (.tup [.agg [.int kind,.str s],.int (-1)]) [.mk t0 [.int p,.ptr 1 0 0 [],.ptr 2 0 0 [],.str held,.int f],.mk tka [.int aw,.str akey,.str aiv,.int am],.mk tkb [.int bw,.str bkey,.str biv,.int bm]]) (zr (decide (16≤s.length∧zap bw bkey (ncF biv bm) h (s.take (s.length-16))=s.drop (s.length-16))) (zr (decide (iA (yv bw bkey (ncF biv bm) (s.take (s.length-16)))= -1)) (K (.tup [.agg [.int (iK (yv bw bkey (ncF biv bm) (s.take (s.length-16)))),.str (((yv bw bkey (ncF biv bm) (s.take (s.length-16)))).take (lnz (yv bw bkey (ncF biv bm) (s.take (s.length-16))) (yv bw bkey (ncF biv bm) (s.take (s.length-16))).length-1))],.int (-1)]) [.mk t0 [.int p,.ptr 1 0 0 [],.ptr 2 0 0 [],.str held,.int f],.mk tka [.int aw,.str akey,.str aiv,.int am],.mk tkb [.int bw,.str bkey,.str biv,.int (bm+1)]]) (K (.tup [.agg [.int 0,.str []],.int (iA (yv bw bkey (ncF biv bm) (s.take (s.length-16))))]) [.mk t0 [.int p,.ptr 1 0 0 [],.ptr 2 0 0 [],.str held,.int f],.mk tka [.int aw,.str akey,.str aiv,.int am],.mk tkb [.int bw,.str bkey,.str biv,.int (bm+1)]])) (K (.tup [.agg [.int 0,.str []],.int 20]) [.mk t0 [.int p,.ptr 1 0 0 [],.ptr 2 0 0 [],.str held,.int f],.mk tka [.int aw,.str akey,.str aiv,.int am],.mk tkb [.int bw,.str bkey,.str biv,.int bm]])))
  |_,_=>False
set_option maxHeartbeats 4000000 in
theorem z2q:zp prog 83 zsk:=by
  refine zo zwp (zd z1b (zd z2b zk)) rfl func83 rfl call83 (D:=z9g) ?_ ?_
  ·intro args hp K h
   unfold zsk at h
   split at h
   ·exact Nat.le_of_ble_eq_true rfl
   ·exact Nat.le_of_ble_eq_true rfl
   ·exact Nat.le_of_ble_eq_true rfl
   ·exact Nat.le_of_ble_eq_true rfl
   ·exact h.elim
  ·intro args hp K h
   unfold zsk at h
   split at h
   ·rename_i h' kind s t0 p held f
    refine wk ?_
    exact ze (hp':= [.mk t0 [.int p,.nilptr,.nilptr,.str held,.int f]]) [0] h
   ·rename_i h' kind s t0 p held f tka aw akey aiv am
    refine wk ?_
    exact ze (hp':= [.mk t0 [.int p,.ptr 1 0 0 [],.nilptr,.str held,.int f],.mk tka [.int aw,.str akey,.str aiv,.int am]]) [0,1] h
   ·rename_i h' kind s t0 p held f tkb bw bkey biv bm
    obtain ⟨hpre,h⟩:=zl h
    obtain ⟨ht,hf⟩:=zu h
    by_cases hk:kind=20
    ·have h:=ht (decide_eq_true hk)
     refine wk ?_
     exact ze (hp':= [.mk t0 [.int p,.nilptr,.ptr 1 0 0 [],.str held,.int f],.mk tkb [.int bw,.str bkey,.str biv,.int bm]]) [0,1] h
    ·have h:=hf (decide_eq_false hk)
     obtain ⟨ht,hf⟩:=zu h
     generalize e:decide (16≤s.length∧zap bw bkey (ncF biv bm) h' (s.take (s.length-16))=s.drop (s.length-16))=c at ht hf
     cases c
     ·have h:=hf rfl
      repeat ((conv=>whnf);first|refine zn ?_|refine zf ?_|refine zg ?_|refine za ?_|refine zq (by first|exact e) ?_|refine zi (by first|exact e) ?_|refine zj (by first|exact e) ?_)
      conv=>whnf
      exact ze (hp':= [.mk t0 [.int p,.nilptr,.ptr 1 0 0 [],.str held,.int f],.mk tkb [.int bw,.str bkey,.str biv,.int bm]]) [0,1] h
     ·have h:=ht rfl
      obtain ⟨ht,hf⟩:=zu h
      have hpl:(yv bw bkey (ncF biv bm) (s.take (s.length-16))).length≤20000:=by rw [xc,List.length_take];omega
      have hll:=zso (yv bw bkey (ncF biv bm) (s.take (s.length-16))) (yv bw bkey (ncF biv bm) (s.take (s.length-16))).length
      have hpi:((yv bw bkey (ncF biv bm) (s.take (s.length-16))).length:Int)=((yv bw bkey (ncF biv bm) (s.take (s.length-16))).length:Int)∧(yv bw bkey (ncF biv bm) (s.take (s.length-16))).length≤1000000:=⟨rfl,by omega⟩
      generalize e2:decide (iA (yv bw bkey (ncF biv bm) (s.take (s.length-16)))= -1)=c2 at ht hf
      cases c2
      ·have h:=hf rfl
       repeat ((conv=>whnf);first|refine zn ?_|refine zf ?_|refine zg ?_|refine za ?_|refine zq (by first|exact e|exact e2) ?_|refine zi (by first|exact e|exact e2) ?_|refine zj (by first|exact e|exact e2) ?_)
       conv=>whnf
       exact ze (hp':= [.mk t0 [.int p,.nilptr,.ptr 1 0 0 [],.str held,.int f],.mk tkb [.int bw,.str bkey,.str biv,.int (bm+1)]]) [0,1] h
      ·have h:=ht rfl
       repeat ((conv=>whnf);first|refine zn ?_|refine zf ?_|refine zg ?_|refine za ?_|refine zq (by first|exact e|exact e2) ?_|refine zi (by first|exact e|exact e2) ?_|refine zj (by first|exact e|exact e2) ?_)
       conv=>whnf
       exact ze (hp':= [.mk t0 [.int p,.nilptr,.ptr 1 0 0 [],.str held,.int f],.mk tkb [.int bw,.str bkey,.str biv,.int (bm+1)]]) [0,1] h
   ·rename_i h' kind s t0 p held f tka aw akey aiv am tkb bw bkey biv bm
    obtain ⟨hpre,h⟩:=zl h
    obtain ⟨ht,hf⟩:=zu h
    by_cases hk:kind=20
    ·have h:=ht (decide_eq_true hk)
     refine wk ?_
     exact ze (hp':= [.mk t0 [.int p,.ptr 1 0 0 [],.ptr 2 0 0 [],.str held,.int f],.mk tka [.int aw,.str akey,.str aiv,.int am],.mk tkb [.int bw,.str bkey,.str biv,.int bm]]) [0,1,2] h
    ·have h:=hf (decide_eq_false hk)
     obtain ⟨ht,hf⟩:=zu h
     generalize e:decide (16≤s.length∧zap bw bkey (ncF biv bm) h' (s.take (s.length-16))=s.drop (s.length-16))=c at ht hf
     cases c
     ·have h:=hf rfl
      repeat ((conv=>whnf);first|refine zn ?_|refine zf ?_|refine zg ?_|refine za ?_|refine zq (by first|exact e) ?_|refine zi (by first|exact e) ?_|refine zj (by first|exact e) ?_)
      conv=>whnf
      exact ze (hp':= [.mk t0 [.int p,.ptr 1 0 0 [],.ptr 2 0 0 [],.str held,.int f],.mk tka [.int aw,.str akey,.str aiv,.int am],.mk tkb [.int bw,.str bkey,.str biv,.int bm]]) [0,1,2] h
     ·have h:=ht rfl
      obtain ⟨ht,hf⟩:=zu h
      have hpl:(yv bw bkey (ncF biv bm) (s.take (s.length-16))).length≤20000:=by rw [xc,List.length_take];omega
      have hll:=zso (yv bw bkey (ncF biv bm) (s.take (s.length-16))) (yv bw bkey (ncF biv bm) (s.take (s.length-16))).length
      have hpi:((yv bw bkey (ncF biv bm) (s.take (s.length-16))).length:Int)=((yv bw bkey (ncF biv bm) (s.take (s.length-16))).length:Int)∧(yv bw bkey (ncF biv bm) (s.take (s.length-16))).length≤1000000:=⟨rfl,by omega⟩
      generalize e2:decide (iA (yv bw bkey (ncF biv bm) (s.take (s.length-16)))= -1)=c2 at ht hf
      cases c2
      ·have h:=hf rfl
       repeat ((conv=>whnf);first|refine zn ?_|refine zf ?_|refine zg ?_|refine za ?_|refine zq (by first|exact e|exact e2) ?_|refine zi (by first|exact e|exact e2) ?_|refine zj (by first|exact e|exact e2) ?_)
       conv=>whnf
       exact ze (hp':= [.mk t0 [.int p,.ptr 1 0 0 [],.ptr 2 0 0 [],.str held,.int f],.mk tka [.int aw,.str akey,.str aiv,.int am],.mk tkb [.int bw,.str bkey,.str biv,.int (bm+1)]]) [0,1,2] h
      ·have h:=ht rfl
       repeat ((conv=>whnf);first|refine zn ?_|refine zf ?_|refine zg ?_|refine za ?_|refine zq (by first|exact e|exact e2) ?_|refine zi (by first|exact e|exact e2) ?_|refine zj (by first|exact e|exact e2) ?_)
       conv=>whnf
       exact ze (hp':= [.mk t0 [.int p,.ptr 1 0 0 [],.ptr 2 0 0 [],.str held,.int f],.mk tka [.int aw,.str akey,.str aiv,.int am],.mk tkb [.int bw,.str bkey,.str biv,.int (bm+1)]]) [0,1,2] h
   ·exact h.elim
end Go.Sym.A

namespace Go.Sym.A
open Go Go.Proofs.Try Go.Sym.Lp Go.Sym.Cha Go.Sym.Sha Go.Sym.Hk
set_option maxRecDepth 100000
attribute [local irreducible] zb8 exF kyF ivF xl zap yv inL ncF lnz iA hA hN hK
def z8n:List (Nat×List PStep):= [(3,[⟨0,[]⟩,⟨1,[]⟩,⟨2,[]⟩,⟨3,[]⟩,⟨4,[0,1,2,3]⟩,⟨5,[0,1,2,3]⟩,⟨6,[0,1,2,3]⟩,⟨7,[0,1,2,3]⟩,⟨8,[0,1,2,3]⟩,⟨9,[]⟩,⟨10,[]⟩,⟨11,[]⟩,⟨12,[11]⟩,⟨13,[11,12]⟩,⟨14,[12,13]⟩,⟨15,[13]⟩,⟨16,[]⟩]),(6,[⟨0,[]⟩,⟨1,[0]⟩,⟨2,[0]⟩,⟨3,[0]⟩,⟨4,[0]⟩,⟨5,[0]⟩,⟨6,[0,1,2,3,4,5]⟩,⟨7,[0,1,2,3,4,5,6]⟩,⟨8,[0,1,2,3,4,5,6]⟩,⟨9,[0,1,2,3,4,5,6]⟩,⟨10,[0,1,2,3,4,5,6]⟩,⟨11,[0,1,2,3,4,5,6,7,8,9,10]⟩,⟨12,[0,1,2,3,4,5,6,7,8,9,10]⟩,⟨13,[0,1,2,3,4,5,6]⟩,⟨18,[0,1,2,3,4,5,6,7,8,9,10,11,12,13]⟩,⟨14,[18]⟩,⟨15,[18]⟩,⟨16,[18]⟩,⟨17,[18,16]⟩,⟨19,[17]⟩,⟨20,[]⟩])]
def z75:List (Nat×List PStep):= [(4,[⟨0,[]⟩,⟨1,[0]⟩,⟨2,[0]⟩,⟨3,[0]⟩,⟨4,[0]⟩,⟨5,[1,2,3,4]⟩,⟨6,[1,2,3,4]⟩,⟨7,[]⟩])]
def hT (h:List UInt8):List UInt8:=(h.drop 5).take (hN h).toNat
def hR (h:List UInt8):List UInt8:=h.drop (5+(hN h).toNat)
def hP (w:Int) (key iv:List UInt8) (m:Int) (h:List UInt8):List UInt8:=yv w key (ncF iv m) ((hT h).take ((hT h).length-16))
def hO (w:Int) (key iv:List UInt8) (m:Int) (h:List UInt8):Prop:=16≤(hT h).length∧zap w key (ncF iv m) (h.take 5) ((hT h).take ((hT h).length-16))=(hT h).drop ((hT h).length-16)
instance (w:Int) (key iv:List UInt8) (m:Int) (h:List UInt8):Decidable (hO w key iv m h):=by unfold hO;exact inferInstance
theorem zrh (h:List UInt8):0≤hN h∧hN h≤65535:=by
  unfold hN
  have b3:=(h.getD 3 0).toNat_lt
  have b4:=(h.getD 4 0).toNat_lt
  omega
theorem ztx {h:List UInt8} {b:Bool} (e:hA h b= -1):hN h≤16640:=by
  have hm:(if b=true∧hK h=23 then (16640:Int) else 16384)≤16640:=by split<;>decide
  by_cases h1:zw (hK h)
  ·by_cases h2:(if b=true∧hK h=23 then (16640:Int) else 16384)<hN h
   ·exfalso
    have e2:hA h b=22:=by unfold hA;rw [if_pos h1,if_pos h2]
    rw [e2] at e
    exact absurd e (by decide)
   ·omega
  ·exfalso
   have e2:hA h b=10:=by unfold hA;rw [if_neg h1]
   rw [e2] at e
   exact absurd e (by decide)
theorem zou {h:List UInt8} (hl:5+hN h≤h.length):((hT h).length:Int)=hN h:=by
  have:=zrh h
  unfold hT
  rw [List.length_take,List.length_drop]
  omega
theorem zve {h:List UInt8} (n:Nat) (e:n=(hN h).toNat):List.take n (List.drop 5 h)=hT h:=by subst e;rfl
def zov:Spec:=fun args hp K=>match args,hp with
  | [.ptr 0 0 0 []],[.mk t0 [.int p,.nilptr,.nilptr,.str held,.int f]]=>Pre (held.length<9223372036854775808) (zr (decide (held.length<5)) (K (.tup [.agg [.int 0,.str []],.bool false,.int (-1)]) [.mk t0 [.int p,.nilptr,.nilptr,.str held,.int f]]) (zr (decide (hA held false= -1)) (zr (decide ((held.length:Int)<5+hN held)) (K (.tup [.agg [.int 0,.str []],.bool false,.int (-1)]) [.mk t0 [.int p,.nilptr,.nilptr,.str held,.int f]]) (K (.tup [.agg [.int (hK held),.str (hT held)],.bool true,.int (-1)]) [.mk t0 [.int p,.nilptr,.nilptr,.str (hR held),.int f]])) (K (.tup [.agg [.int 0,.str []],.bool false,.int (hA held false)]) [.mk t0 [.int p,.nilptr,.nilptr,.str held,.int f]])))
  | [.ptr 0 0 0 []],[.mk t0 [.int p,.ptr 1 0 0 [],.nilptr,.str held,.int f],.mk tka [.int aw,.str akey,.str aiv,.int am]]=>Pre (held.length<9223372036854775808) (zr (decide (held.length<5)) (K (.tup [.agg [.int 0,.str []],.bool false,.int (-1)]) [.mk t0 [.int p,.ptr 1 0 0 [],.nilptr,.str held,.int f],.mk tka [.int aw,.str akey,.str aiv,.int am]]) (zr (decide (hA held false= -1)) (zr (decide ((held.length:Int)<5+hN held)) (K (.tup [.agg [.int 0,.str []],.bool false,.int (-1)]) [.mk t0 [.int p,.ptr 1 0 0 [],.nilptr,.str held,.int f],.mk tka [.int aw,.str akey,.str aiv,.int am]]) (K (.tup [.agg [.int (hK held),.str (hT held)],.bool true,.int (-1)]) [.mk t0 [.int p,.ptr 1 0 0 [],.nilptr,.str (hR held),.int f],.mk tka [.int aw,.str akey,.str aiv,.int am]])) (K (.tup [.agg [.int 0,.str []],.bool false,.int (hA held false)]) [.mk t0 [.int p,.ptr 1 0 0 [],.nilptr,.str held,.int f],.mk tka [.int aw,.str akey,.str aiv,.int am]])))
  | [.ptr 0 0 0 []],[.mk t0 [.int p,.nilptr,.ptr 1 0 0 [],.str held,.int f],.mk tkb [.int bw,.str bkey,.str biv,.int bm]]=>Pre (za7 bw bkey biv bm∧held.length<9223372036854775808) (zr (decide (held.length<5)) (K (.tup [.agg [.int 0,.str []],.bool false,.int (-1)]) [.mk t0 [.int p,.nilptr,.ptr 1 0 0 [],.str held,.int f],.mk tkb [.int bw,.str bkey,.str biv,.int bm]]) (zr (decide (hA held true= -1)) (zr (decide ((held.length:Int)<5+hN held)) (K (.tup [.agg [.int 0,.str []],.bool false,.int (-1)]) [.mk t0 [.int p,.nilptr,.ptr 1 0 0 [],.str held,.int f],.mk tkb [.int bw,.str bkey,.str biv,.int bm]]) (zr (decide (hK held=20)) (K (.tup [.agg [.int (hK held),.str (hT held)],.bool true,.int (-1)]) [.mk t0 [.int p,.nilptr,.ptr 1 0 0 [],.str (hR held),.int f],.mk tkb [.int bw,.str bkey,.str biv,.int bm]]) (zr (decide (hO bw bkey biv bm held)) (zr (decide (iA (hP bw bkey biv bm held)= -1)) (K (.tup [.agg [.int (iK (hP bw bkey biv bm held)),.str (((hP bw bkey biv bm held)).take (lnz (hP bw bkey biv bm held) (hP bw bkey biv bm held).length-1))],.bool true,.int (-1)]) [.mk t0 [.int p,.nilptr,.ptr 1 0 0 [],.str (hR held),.int f],.mk tkb [.int bw,.str bkey,.str biv,.int (bm+1)]]) (K (.tup [.agg [.int 0,.str []],.bool false,.int (iA (hP bw bkey biv bm held))]) [.mk t0 [.int p,.nilptr,.ptr 1 0 0 [],.str held,.int f],.mk tkb [.int bw,.str bkey,.str biv,.int (bm+1)]])) (K (.tup [.agg [.int 0,.str []],.bool false,.int 20]) [.mk t0 [.int p,.nilptr,.ptr 1 0 0 [],.str held,.int f],.mk tkb [.int bw,.str bkey,.str biv,.int bm]])))) (K (.tup [.agg [.int 0,.str []],.bool false,.int (hA held true)]) [.mk t0 [.int p,.nilptr,.ptr 1 0 0 [],.str held,.int f],.mk tkb [.int bw,.str bkey,.str biv,.int bm]])))
  | [.ptr 0 0 0 []],[.mk t0 [.int p,.ptr 1 0 0 [],.ptr 2 0 0 [],.str held,.int f],.mk tka [.int aw,.str akey,.str aiv,.int am],.mk tkb [.int bw,.str bkey,.str biv,.int bm]]=>Pre (za7 bw bkey biv bm∧held.length<9223372036854775808) (zr (decide (held.length<5)) (K (.tup [.agg [.int 0,.str []],.bool false,.int (-1)]) [.mk t0 [.int p,.ptr 1 0 0 [],.ptr 2 0 0 [],.str held,.int f],.mk tka [.int aw,.str akey,.str aiv,.int am],.mk tkb [.int bw,.str bkey,.str biv,.int bm]]) (zr (decide (hA held true= -1)) (zr (decide ((held.length:Int)<5+hN held)) (K (.tup [.agg [.int 0,.str []],.bool false,.int (-1)]) [.mk t0 [.int p,.ptr 1 0 0 [],.ptr 2 0 0 [],.str held,.int f],.mk tka [.int aw,.str akey,.str aiv,.int am],.mk tkb [.int bw,.str bkey,.str biv,.int bm]]) (zr (decide (hK held=20)) (K (.tup [.agg [.int (hK held),.str (hT held)],.bool true,.int (-1)]) [.mk t0 [.int p,.ptr 1 0 0 [],.ptr 2 0 0 [],.str (hR held),.int f],.mk tka [.int aw,.str akey,.str aiv,.int am],.mk tkb [.int bw,.str bkey,.str biv,.int bm]]) (zr (decide (hO bw bkey biv bm held)) (zr (decide (iA (hP bw bkey biv bm held)= -1)) (K (.tup [.agg [.int (iK (hP bw bkey biv bm held)),.str (((hP bw bkey biv bm held)).take (lnz (hP bw bkey biv bm held) (hP bw bkey biv bm held).length-1))],.bool true,.int (-1)]) [.mk t0 [.int p,.ptr 1 0 0 [],.ptr 2 0 0 [],.str (hR held),.int f],.mk tka [.int aw,.str akey,.str aiv,.int am],.mk tkb [.int bw,.str bkey,.str biv,.int (bm+1)]]) (K (.tup [.agg [.int 0,.str []],.bool false,.int (iA (hP bw bkey biv bm held))]) [.mk t0 [.int p,.ptr 1 0 0 [],.ptr 2 0 0 [],.str held,.int f],.mk tka [.int aw,.str akey,.str aiv,.int am],.mk tkb [.int bw,.str bkey,.str biv,.int (bm+1)]])) (K (.tup [.agg [.int 0,.str []],.bool false,.int 20]) [.mk t0 [.int p,.ptr 1 0 0 [],.ptr 2 0 0 [],.str held,.int f],.mk tka [.int aw,.str akey,.str aiv,.int am],.mk tkb [.int bw,.str bkey,.str biv,.int bm]])))) (K (.tup [.agg [.int 0,.str []],.bool false,.int (hA held true)]) [.mk t0 [.int p,.ptr 1 0 0 [],.ptr 2 0 0 [],.str held,.int f],.mk tka [.int aw,.str akey,.str aiv,.int am],.mk tkb [.int bw,.str bkey,.str biv,.int bm]])))
  |_,_=>False
set_option maxHeartbeats 4000000 in
theorem zxj:zp prog 55 zov:=by
  refine zo yi (zd z5m (zd z2q zk)) rfl func55 rfl call55 (D:=z8n) ?_ ?_
  ·intro args hp K h
   unfold zov at h
   split at h
   ·exact Nat.le_of_ble_eq_true rfl
   ·exact Nat.le_of_ble_eq_true rfl
   ·exact Nat.le_of_ble_eq_true rfl
   ·exact Nat.le_of_ble_eq_true rfl
   ·exact h.elim
  ·intro args hp K h
   unfold zov at h
   split at h
   ·rename_i t0 p held f
    obtain ⟨hl,h⟩:=zl h
    obtain ⟨ht,hf⟩:=zu h
    by_cases h5:held.length<5
    ·have h:=ht (decide_eq_true h5)
     refine wk ?_
     exact ze (hp':= [.mk t0 [.int p,.nilptr,.nilptr,.str held,.int f]]) [0] h
    ·have h:=hf (decide_eq_false h5)
     have hp0:5≤held.length∧held.length<9223372036854775808:=⟨by omega,hl⟩
     have hnb:=zrh held
     obtain ⟨ht,hf⟩:=zu h
     by_cases ha:hA held false= -1
     ·have e1:decide (hA held false= -1)=true:=decide_eq_true ha
      have h:=ht e1
      have hn16:=ztx ha
      obtain ⟨ht,hf⟩:=zu h
      by_cases hs:(held.length:Int)<5+hN held
      ·have h:=ht (decide_eq_true hs)
       refine wk ?_
       exact ze (hp':= [.mk t0 [.int p,.nilptr,.nilptr,.str held,.int f]]) [0] h
      ·have h:=hf (decide_eq_false hs)
       have hTl:=zou (h:=held) (by omega)
       have hTe:List.take ((5+hN held).toNat-Int.toNat 5) (List.drop (Int.toNat 5) held)=hT held:=zve _ (by show (5+hN held).toNat-5=_;omega)
       have hRe:List.drop (5+hN held).toNat held=hR held:=by unfold hR;congr 1;omega
       refine wk ?_
       rw [hTe,hRe]
       conv=>whnf
       exact ze (hp':= [.mk t0 [.int p,.nilptr,.nilptr,.str (hR held),.int f]]) [0] h
     ·have e1:decide (hA held false= -1)=false:=decide_eq_false ha
      have h:=hf e1
      refine wk ?_
      exact ze (hp':= [.mk t0 [.int p,.nilptr,.nilptr,.str held,.int f]]) [0] h
   ·rename_i t0 p held f tka aw akey aiv am
    obtain ⟨hl,h⟩:=zl h
    obtain ⟨ht,hf⟩:=zu h
    by_cases h5:held.length<5
    ·have h:=ht (decide_eq_true h5)
     refine wk ?_
     exact ze (hp':= [.mk t0 [.int p,.ptr 1 0 0 [],.nilptr,.str held,.int f],.mk tka [.int aw,.str akey,.str aiv,.int am]]) [0,1] h
    ·have h:=hf (decide_eq_false h5)
     have hp0:5≤held.length∧held.length<9223372036854775808:=⟨by omega,hl⟩
     have hnb:=zrh held
     obtain ⟨ht,hf⟩:=zu h
     by_cases ha:hA held false= -1
     ·have e1:decide (hA held false= -1)=true:=decide_eq_true ha
      have h:=ht e1
      have hn16:=ztx ha
      obtain ⟨ht,hf⟩:=zu h
      by_cases hs:(held.length:Int)<5+hN held
      ·have h:=ht (decide_eq_true hs)
       refine wk ?_
       exact ze (hp':= [.mk t0 [.int p,.ptr 1 0 0 [],.nilptr,.str held,.int f],.mk tka [.int aw,.str akey,.str aiv,.int am]]) [0,1] h
      ·have h:=hf (decide_eq_false hs)
       have hTl:=zou (h:=held) (by omega)
       have hTe:List.take ((5+hN held).toNat-Int.toNat 5) (List.drop (Int.toNat 5) held)=hT held:=zve _ (by show (5+hN held).toNat-5=_;omega)
       have hRe:List.drop (5+hN held).toNat held=hR held:=by unfold hR;congr 1;omega
       refine wk ?_
       rw [hTe,hRe]
       conv=>whnf
       exact ze (hp':= [.mk t0 [.int p,.ptr 1 0 0 [],.nilptr,.str (hR held),.int f],.mk tka [.int aw,.str akey,.str aiv,.int am]]) [0,1] h
     ·have e1:decide (hA held false= -1)=false:=decide_eq_false ha
      have h:=hf e1
      refine wk ?_
      exact ze (hp':= [.mk t0 [.int p,.ptr 1 0 0 [],.nilptr,.str held,.int f],.mk tka [.int aw,.str akey,.str aiv,.int am]]) [0,1] h
   ·rename_i t0 p held f tkb bw bkey biv bm
    obtain ⟨⟨hok,hl⟩,h⟩:=zl h
    obtain ⟨ht,hf⟩:=zu h
    by_cases h5:held.length<5
    ·have h:=ht (decide_eq_true h5)
     refine wk ?_
     exact ze (hp':= [.mk t0 [.int p,.nilptr,.ptr 1 0 0 [],.str held,.int f],.mk tkb [.int bw,.str bkey,.str biv,.int bm]]) [0,1] h
    ·have h:=hf (decide_eq_false h5)
     have hp0:5≤held.length∧held.length<9223372036854775808:=⟨by omega,hl⟩
     have hnb:=zrh held
     obtain ⟨ht,hf⟩:=zu h
     by_cases ha:hA held true= -1
     ·have e1:decide (hA held true= -1)=true:=decide_eq_true ha
      have h:=ht e1
      have hn16:=ztx ha
      obtain ⟨ht,hf⟩:=zu h
      by_cases hs:(held.length:Int)<5+hN held
      ·have h:=ht (decide_eq_true hs)
       refine wk ?_
       exact ze (hp':= [.mk t0 [.int p,.nilptr,.ptr 1 0 0 [],.str held,.int f],.mk tkb [.int bw,.str bkey,.str biv,.int bm]]) [0,1] h
      ·have h:=hf (decide_eq_false hs)
       have hTl:=zou (h:=held) (by omega)
       have hTe:List.take ((5+hN held).toNat-Int.toNat 5) (List.drop (Int.toNat 5) held)=hT held:=zve _ (by show (5+hN held).toNat-5=_;omega)
       have hRe:List.drop (5+hN held).toNat held=hR held:=by unfold hR;congr 1;omega
       have hpb:za7 bw bkey biv bm∧(List.take (Int.toNat 5) held).length≤100∧(hT held).length≤20000:=⟨hok,by rw [List.length_take];show min 5 _≤_;omega,by omega⟩
       obtain ⟨ht,hf⟩:=zu h
       by_cases hk:hK held=20
       ·have e2:=decide_eq_true hk
        have h:=ht e2
        refine wk ?_
        rw [hTe]
        refine wk ?_
        rw [hRe]
        conv=>whnf
        exact ze (hp':= [.mk t0 [.int p,.nilptr,.ptr 1 0 0 [],.str (hR held),.int f],.mk tkb [.int bw,.str bkey,.str biv,.int bm]]) [0,1] h
       ·have e2:=decide_eq_false hk
        have h:=hf e2
        obtain ⟨ht,hf⟩:=zu h
        by_cases hop:hO bw bkey biv bm held
        ·have e3:decide (hO bw bkey biv bm held)=true:=decide_eq_true hop
         have h:=ht e3
         obtain ⟨ht,hf⟩:=zu h
         by_cases hia:iA (hP bw bkey biv bm held)= -1
         ·have e4:decide (iA (hP bw bkey biv bm held)= -1)=true:=decide_eq_true hia
          have e5:decide (iA (yv bw bkey (ncF biv bm) (List.take ((hT held).length-16) (hT held)))= -1)=true:=e4
          have h:=ht e4
          refine wk ?_
          rw [hTe]
          repeat ((conv=>whnf);first|refine zn ?_|refine zf ?_|refine zg ?_|refine za ?_|refine zi (by first|(rw [e5];rfl)) ?_|refine zj (by first|(rw [e5];rfl)) ?_)
          conv=>whnf
          rw [hRe]
          conv=>whnf
          exact ze (hp':= [.mk t0 [.int p,.nilptr,.ptr 1 0 0 [],.str (hR held),.int f],.mk tkb [.int bw,.str bkey,.str biv,.int (bm+1)]]) [0,1] h
         ·have e4:decide (iA (hP bw bkey biv bm held)= -1)=false:=decide_eq_false hia
          have e5:decide (iA (yv bw bkey (ncF biv bm) (List.take ((hT held).length-16) (hT held)))= -1)=false:=e4
          have h:=hf e4
          refine wk ?_
          rw [hTe]
          repeat ((conv=>whnf);first|refine zn ?_|refine zf ?_|refine zg ?_|refine za ?_|refine zi (by first|(rw [e5];rfl)) ?_|refine zj (by first|(rw [e5];rfl)) ?_)
          conv=>whnf
          conv=>whnf
          exact ze (hp':= [.mk t0 [.int p,.nilptr,.ptr 1 0 0 [],.str held,.int f],.mk tkb [.int bw,.str bkey,.str biv,.int (bm+1)]]) [0,1] h
        ·have e3:decide (hO bw bkey biv bm held)=false:=decide_eq_false hop
         have h:=hf e3
         refine wk ?_
         rw [hTe]
         refine wk ?_
         conv=>whnf
         exact ze (hp':= [.mk t0 [.int p,.nilptr,.ptr 1 0 0 [],.str held,.int f],.mk tkb [.int bw,.str bkey,.str biv,.int bm]]) [0,1] h
     ·have e1:decide (hA held true= -1)=false:=decide_eq_false ha
      have h:=hf e1
      refine wk ?_
      exact ze (hp':= [.mk t0 [.int p,.nilptr,.ptr 1 0 0 [],.str held,.int f],.mk tkb [.int bw,.str bkey,.str biv,.int bm]]) [0,1] h
   ·rename_i t0 p held f tka aw akey aiv am tkb bw bkey biv bm
    obtain ⟨⟨hok,hl⟩,h⟩:=zl h
    obtain ⟨ht,hf⟩:=zu h
    by_cases h5:held.length<5
    ·have h:=ht (decide_eq_true h5)
     refine wk ?_
     exact ze (hp':= [.mk t0 [.int p,.ptr 1 0 0 [],.ptr 2 0 0 [],.str held,.int f],.mk tka [.int aw,.str akey,.str aiv,.int am],.mk tkb [.int bw,.str bkey,.str biv,.int bm]]) [0,1,2] h
    ·have h:=hf (decide_eq_false h5)
     have hp0:5≤held.length∧held.length<9223372036854775808:=⟨by omega,hl⟩
     have hnb:=zrh held
     obtain ⟨ht,hf⟩:=zu h
     by_cases ha:hA held true= -1
     ·have e1:decide (hA held true= -1)=true:=decide_eq_true ha
      have h:=ht e1
      have hn16:=ztx ha
      obtain ⟨ht,hf⟩:=zu h
      by_cases hs:(held.length:Int)<5+hN held
      ·have h:=ht (decide_eq_true hs)
       refine wk ?_
       exact ze (hp':= [.mk t0 [.int p,.ptr 1 0 0 [],.ptr 2 0 0 [],.str held,.int f],.mk tka [.int aw,.str akey,.str aiv,.int am],.mk tkb [.int bw,.str bkey,.str biv,.int bm]]) [0,1,2] h
      ·have h:=hf (decide_eq_false hs)
       have hTl:=zou (h:=held) (by omega)
       have hTe:List.take ((5+hN held).toNat-Int.toNat 5) (List.drop (Int.toNat 5) held)=hT held:=zve _ (by show (5+hN held).toNat-5=_;omega)
       have hRe:List.drop (5+hN held).toNat held=hR held:=by unfold hR;congr 1;omega
       have hpb:za7 bw bkey biv bm∧(List.take (Int.toNat 5) held).length≤100∧(hT held).length≤20000:=⟨hok,by rw [List.length_take];show min 5 _≤_;omega,by omega⟩
       obtain ⟨ht,hf⟩:=zu h
       by_cases hk:hK held=20
       ·have e2:=decide_eq_true hk
        have h:=ht e2
        refine wk ?_
        rw [hTe]
        refine wk ?_
        rw [hRe]
        conv=>whnf
        exact ze (hp':= [.mk t0 [.int p,.ptr 1 0 0 [],.ptr 2 0 0 [],.str (hR held),.int f],.mk tka [.int aw,.str akey,.str aiv,.int am],.mk tkb [.int bw,.str bkey,.str biv,.int bm]]) [0,1,2] h
       ·have e2:=decide_eq_false hk
        have h:=hf e2
        obtain ⟨ht,hf⟩:=zu h
        by_cases hop:hO bw bkey biv bm held
        ·have e3:decide (hO bw bkey biv bm held)=true:=decide_eq_true hop
         have h:=ht e3
         obtain ⟨ht,hf⟩:=zu h
         by_cases hia:iA (hP bw bkey biv bm held)= -1
         ·have e4:decide (iA (hP bw bkey biv bm held)= -1)=true:=decide_eq_true hia
          have e5:decide (iA (yv bw bkey (ncF biv bm) (List.take ((hT held).length-16) (hT held)))= -1)=true:=e4
          have h:=ht e4
          refine wk ?_
          rw [hTe]
          repeat ((conv=>whnf);first|refine zn ?_|refine zf ?_|refine zg ?_|refine za ?_|refine zi (by first|(rw [e5];rfl)) ?_|refine zj (by first|(rw [e5];rfl)) ?_)
          conv=>whnf
          rw [hRe]
          conv=>whnf
          exact ze (hp':= [.mk t0 [.int p,.ptr 1 0 0 [],.ptr 2 0 0 [],.str (hR held),.int f],.mk tka [.int aw,.str akey,.str aiv,.int am],.mk tkb [.int bw,.str bkey,.str biv,.int (bm+1)]]) [0,1,2] h
         ·have e4:decide (iA (hP bw bkey biv bm held)= -1)=false:=decide_eq_false hia
          have e5:decide (iA (yv bw bkey (ncF biv bm) (List.take ((hT held).length-16) (hT held)))= -1)=false:=e4
          have h:=hf e4
          refine wk ?_
          rw [hTe]
          repeat ((conv=>whnf);first|refine zn ?_|refine zf ?_|refine zg ?_|refine za ?_|refine zi (by first|(rw [e5];rfl)) ?_|refine zj (by first|(rw [e5];rfl)) ?_)
          conv=>whnf
          conv=>whnf
          exact ze (hp':= [.mk t0 [.int p,.ptr 1 0 0 [],.ptr 2 0 0 [],.str held,.int f],.mk tka [.int aw,.str akey,.str aiv,.int am],.mk tkb [.int bw,.str bkey,.str biv,.int (bm+1)]]) [0,1,2] h
        ·have e3:decide (hO bw bkey biv bm held)=false:=decide_eq_false hop
         have h:=hf e3
         refine wk ?_
         rw [hTe]
         refine wk ?_
         conv=>whnf
         exact ze (hp':= [.mk t0 [.int p,.ptr 1 0 0 [],.ptr 2 0 0 [],.str held,.int f],.mk tka [.int aw,.str akey,.str aiv,.int am],.mk tkb [.int bw,.str bkey,.str biv,.int bm]]) [0,1,2] h
     ·have e1:decide (hA held true= -1)=false:=decide_eq_false ha
      have h:=hf e1
      refine wk ?_
      exact ze (hp':= [.mk t0 [.int p,.ptr 1 0 0 [],.ptr 2 0 0 [],.str held,.int f],.mk tka [.int aw,.str akey,.str aiv,.int am],.mk tkb [.int bw,.str bkey,.str biv,.int bm]]) [0,1,2] h
   ·exact h.elim
def zp5:Spec:=fun args hp K=>match args,hp with
  | [.ptr 0 0 0 []],[.mk t0 [.int p,.nilptr,.nilptr,.str held,.int f]]=>Pre (held.length<9223372036854775808) (zr (decide (f= -1)) (zr (decide (held.length<5)) (K (.tup [.agg [.int 0,.str []],.bool false,.int (-1)]) [.mk t0 [.int p,.nilptr,.nilptr,.str held,.int (-1)]]) (zr (decide (hA held false= -1)) (zr (decide ((held.length:Int)<5+hN held)) (K (.tup [.agg [.int 0,.str []],.bool false,.int (-1)]) [.mk t0 [.int p,.nilptr,.nilptr,.str held,.int (-1)]]) (K (.tup [.agg [.int (hK held),.str (hT held)],.bool true,.int (-1)]) [.mk t0 [.int p,.nilptr,.nilptr,.str (hR held),.int (-1)]])) (K (.tup [.agg [.int 0,.str []],.bool false,.int (hA held false)]) [.mk t0 [.int p,.nilptr,.nilptr,.str held,.int (hA held false)]]))) (K (.tup [.agg [.int 0,.str []],.bool false,.int f]) [.mk t0 [.int p,.nilptr,.nilptr,.str held,.int f]]))
  | [.ptr 0 0 0 []],[.mk t0 [.int p,.ptr 1 0 0 [],.nilptr,.str held,.int f],.mk tka [.int aw,.str akey,.str aiv,.int am]]=>Pre (held.length<9223372036854775808) (zr (decide (f= -1)) (zr (decide (held.length<5)) (K (.tup [.agg [.int 0,.str []],.bool false,.int (-1)]) [.mk t0 [.int p,.ptr 1 0 0 [],.nilptr,.str held,.int (-1)],.mk tka [.int aw,.str akey,.str aiv,.int am]]) (zr (decide (hA held false= -1)) (zr (decide ((held.length:Int)<5+hN held)) (K (.tup [.agg [.int 0,.str []],.bool false,.int (-1)]) [.mk t0 [.int p,.ptr 1 0 0 [],.nilptr,.str held,.int (-1)],.mk tka [.int aw,.str akey,.str aiv,.int am]]) (K (.tup [.agg [.int (hK held),.str (hT held)],.bool true,.int (-1)]) [.mk t0 [.int p,.ptr 1 0 0 [],.nilptr,.str (hR held),.int (-1)],.mk tka [.int aw,.str akey,.str aiv,.int am]])) (K (.tup [.agg [.int 0,.str []],.bool false,.int (hA held false)]) [.mk t0 [.int p,.ptr 1 0 0 [],.nilptr,.str held,.int (hA held false)],.mk tka [.int aw,.str akey,.str aiv,.int am]]))) (K (.tup [.agg [.int 0,.str []],.bool false,.int f]) [.mk t0 [.int p,.ptr 1 0 0 [],.nilptr,.str held,.int f],.mk tka [.int aw,.str akey,.str aiv,.int am]]))
  | [.ptr 0 0 0 []],[.mk t0 [.int p,.nilptr,.ptr 1 0 0 [],.str held,.int f],.mk tkb [.int bw,.str bkey,.str biv,.int bm]]=>Pre (za7 bw bkey biv bm∧held.length<9223372036854775808) (zr (decide (f= -1)) (zr (decide (held.length<5)) (K (.tup [.agg [.int 0,.str []],.bool false,.int (-1)]) [.mk t0 [.int p,.nilptr,.ptr 1 0 0 [],.str held,.int (-1)],.mk tkb [.int bw,.str bkey,.str biv,.int bm]]) (zr (decide (hA held true= -1)) (zr (decide ((held.length:Int)<5+hN held)) (K (.tup [.agg [.int 0,.str []],.bool false,.int (-1)]) [.mk t0 [.int p,.nilptr,.ptr 1 0 0 [],.str held,.int (-1)],.mk tkb [.int bw,.str bkey,.str biv,.int bm]]) (zr (decide (hK held=20)) (K (.tup [.agg [.int (hK held),.str (hT held)],.bool true,.int (-1)]) [.mk t0 [.int p,.nilptr,.ptr 1 0 0 [],.str (hR held),.int (-1)],.mk tkb [.int bw,.str bkey,.str biv,.int bm]]) (zr (decide (hO bw bkey biv bm held)) (zr (decide (iA (hP bw bkey biv bm held)= -1)) (K (.tup [.agg [.int (iK (hP bw bkey biv bm held)),.str (((hP bw bkey biv bm held)).take (lnz (hP bw bkey biv bm held) (hP bw bkey biv bm held).length-1))],.bool true,.int (-1)]) [.mk t0 [.int p,.nilptr,.ptr 1 0 0 [],.str (hR held),.int (-1)],.mk tkb [.int bw,.str bkey,.str biv,.int (bm+1)]]) (K (.tup [.agg [.int 0,.str []],.bool false,.int (iA (hP bw bkey biv bm held))]) [.mk t0 [.int p,.nilptr,.ptr 1 0 0 [],.str held,.int (iA (hP bw bkey biv bm held))],.mk tkb [.int bw,.str bkey,.str biv,.int (bm+1)]])) (K (.tup [.agg [.int 0,.str []],.bool false,.int 20]) [.mk t0 [.int p,.nilptr,.ptr 1 0 0 [],.str held,.int 20],.mk tkb [.int bw,.str bkey,.str biv,.int bm]])))) (K (.tup [.agg [.int 0,.str []],.bool false,.int (hA held true)]) [.mk t0 [.int p,.nilptr,.ptr 1 0 0 [],.str held,.int (hA held true)],.mk tkb [.int bw,.str bkey,.str biv,.int bm]]))) (K (.tup [.agg [.int 0,.str []],.bool false,.int f]) [.mk t0 [.int p,.nilptr,.ptr 1 0 0 [],.str held,.int f],.mk tkb [.int bw,.str bkey,.str biv,.int bm]]))
  | [.ptr 0 0 0 []],[.mk t0 [.int p,.ptr 1 0 0 [],.ptr 2 0 0 [],.str held,.int f],.mk tka [.int aw,.str akey,.str aiv,.int am],.mk tkb [.int bw,.str bkey,.str biv,.int bm]]=>Pre (za7 bw bkey biv bm∧held.length<9223372036854775808) (zr (decide (f= -1)) (zr (decide (held.length<5)) (K (.tup [.agg [.int 0,.str []],.bool false,.int (-1)]) [.mk t0 [.int p,.ptr 1 0 0 [],.ptr 2 0 0 [],.str held,.int (-1)],.mk tka [.int aw,.str akey,.str aiv,.int am],.mk tkb [.int bw,.str bkey,.str biv,.int bm]]) (zr (decide (hA held true= -1)) (zr (decide ((held.length:Int)<5+hN held)) (K (.tup [.agg [.int 0,.str []],.bool false,.int (-1)]) [.mk t0 [.int p,.ptr 1 0 0 [],.ptr 2 0 0 [],.str held,.int (-1)],.mk tka [.int aw,.str akey,.str aiv,.int am],.mk tkb [.int bw,.str bkey,.str biv,.int bm]]) (zr (decide (hK held=20)) (K (.tup [.agg [.int (hK held),.str (hT held)],.bool true,.int (-1)]) [.mk t0 [.int p,.ptr 1 0 0 [],.ptr 2 0 0 [],.str (hR held),.int (-1)],.mk tka [.int aw,.str akey,.str aiv,.int am],.mk tkb [.int bw,.str bkey,.str biv,.int bm]]) (zr (decide (hO bw bkey biv bm held)) (zr (decide (iA (hP bw bkey biv bm held)= -1)) (K (.tup [.agg [.int (iK (hP bw bkey biv bm held)),.str (((hP bw bkey biv bm held)).take (lnz (hP bw bkey biv bm held) (hP bw bkey biv bm held).length-1))],.bool true,.int (-1)]) [.mk t0 [.int p,.ptr 1 0 0 [],.ptr 2 0 0 [],.str (hR held),.int (-1)],.mk tka [.int aw,.str akey,.str aiv,.int am],.mk tkb [.int bw,.str bkey,.str biv,.int (bm+1)]]) (K (.tup [.agg [.int 0,.str []],.bool false,.int (iA (hP bw bkey biv bm held))]) [.mk t0 [.int p,.ptr 1 0 0 [],.ptr 2 0 0 [],.str held,.int (iA (hP bw bkey biv bm held))],.mk tka [.int aw,.str akey,.str aiv,.int am],.mk tkb [.int bw,.str bkey,.str biv,.int (bm+1)]])) (K (.tup [.agg [.int 0,.str []],.bool false,.int 20]) [.mk t0 [.int p,.ptr 1 0 0 [],.ptr 2 0 0 [],.str held,.int 20],.mk tka [.int aw,.str akey,.str aiv,.int am],.mk tkb [.int bw,.str bkey,.str biv,.int bm]])))) (K (.tup [.agg [.int 0,.str []],.bool false,.int (hA held true)]) [.mk t0 [.int p,.ptr 1 0 0 [],.ptr 2 0 0 [],.str held,.int (hA held true)],.mk tka [.int aw,.str akey,.str aiv,.int am],.mk tkb [.int bw,.str bkey,.str biv,.int bm]]))) (K (.tup [.agg [.int 0,.str []],.bool false,.int f]) [.mk t0 [.int p,.ptr 1 0 0 [],.ptr 2 0 0 [],.str held,.int f],.mk tka [.int aw,.str akey,.str aiv,.int am],.mk tkb [.int bw,.str bkey,.str biv,.int bm]]))
  |_,_=>False
set_option maxHeartbeats 4000000 in
theorem zua:zp prog 29 zp5:=by
  refine zo yi (zd zxj zk) rfl func29 rfl call29 (D:=z75) ?_ ?_
  ·intro args hp K h
   unfold zp5 at h
   split at h
   ·exact Nat.le_of_ble_eq_true rfl
   ·exact Nat.le_of_ble_eq_true rfl
   ·exact Nat.le_of_ble_eq_true rfl
   ·exact Nat.le_of_ble_eq_true rfl
   ·exact h.elim
  ·intro args hp K h
   unfold zp5 at h
   split at h
   ·rename_i t0 p held f
    obtain ⟨hpre,h⟩:=zl h
    obtain ⟨ht,hf⟩:=zu h
    generalize e0:decide (f= -1)=c0 at ht hf
    cases c0
    ·have h:=hf rfl
     repeat ((conv=>whnf);first|refine zn ?_|refine zf ?_|refine zg ?_|refine za ?_|refine zi (by first|(rw [e0];rfl)) ?_|refine zj (by first|(rw [e0];rfl)) ?_)
     conv=>whnf
     exact ze (hp':= [.mk t0 [.int p,.nilptr,.nilptr,.str held,.int f]]) [0] h
    ·have h:=ht rfl
     obtain ⟨ht,hf⟩:=zu h
     generalize e1:decide (held.length<5)=c1 at ht hf
     cases c1
     ·have h:=hf rfl
      obtain ⟨ht,hf⟩:=zu h
      generalize e2:decide (hA held false= -1)=c2 at ht hf
      cases c2
      ·have h:=hf rfl
       repeat ((conv=>whnf);first|refine zn ?_|refine zf ?_|refine zg ?_|refine za ?_|refine zi (by first|(rw [e0];rfl)|(rw [e1];rfl)|(rw [e2];rfl)) ?_|refine zj (by first|(rw [e0];rfl)|(rw [e1];rfl)|(rw [e2];rfl)) ?_)
       conv=>whnf
       exact ze (hp':= [.mk t0 [.int p,.nilptr,.nilptr,.str held,.int (hA held false)]]) [0] h
      ·have h:=ht rfl
       obtain ⟨ht,hf⟩:=zu h
       generalize e3:decide ((held.length:Int)<5+hN held)=c3 at ht hf
       cases c3
       ·have h:=hf rfl
        repeat ((conv=>whnf);first|refine zn ?_|refine zf ?_|refine zg ?_|refine za ?_|refine zi (by first|(rw [e0];rfl)|(rw [e1];rfl)|(rw [e2];rfl)|(rw [e3];rfl)) ?_|refine zj (by first|(rw [e0];rfl)|(rw [e1];rfl)|(rw [e2];rfl)|(rw [e3];rfl)) ?_)
        conv=>whnf
        exact ze (hp':= [.mk t0 [.int p,.nilptr,.nilptr,.str (hR held),.int (-1)]]) [0] h
       ·have h:=ht rfl
        repeat ((conv=>whnf);first|refine zn ?_|refine zf ?_|refine zg ?_|refine za ?_|refine zi (by first|(rw [e0];rfl)|(rw [e1];rfl)|(rw [e2];rfl)|(rw [e3];rfl)) ?_|refine zj (by first|(rw [e0];rfl)|(rw [e1];rfl)|(rw [e2];rfl)|(rw [e3];rfl)) ?_)
        conv=>whnf
        exact ze (hp':= [.mk t0 [.int p,.nilptr,.nilptr,.str held,.int (-1)]]) [0] h
     ·have h:=ht rfl
      repeat ((conv=>whnf);first|refine zn ?_|refine zf ?_|refine zg ?_|refine za ?_|refine zi (by first|(rw [e0];rfl)|(rw [e1];rfl)) ?_|refine zj (by first|(rw [e0];rfl)|(rw [e1];rfl)) ?_)
      conv=>whnf
      exact ze (hp':= [.mk t0 [.int p,.nilptr,.nilptr,.str held,.int (-1)]]) [0] h
   ·rename_i t0 p held f tka aw akey aiv am
    obtain ⟨hpre,h⟩:=zl h
    obtain ⟨ht,hf⟩:=zu h
    generalize e0:decide (f= -1)=c0 at ht hf
    cases c0
    ·have h:=hf rfl
     repeat ((conv=>whnf);first|refine zn ?_|refine zf ?_|refine zg ?_|refine za ?_|refine zi (by first|(rw [e0];rfl)) ?_|refine zj (by first|(rw [e0];rfl)) ?_)
     conv=>whnf
     exact ze (hp':= [.mk t0 [.int p,.ptr 1 0 0 [],.nilptr,.str held,.int f],.mk tka [.int aw,.str akey,.str aiv,.int am]]) [0,1] h
    ·have h:=ht rfl
     obtain ⟨ht,hf⟩:=zu h
     generalize e1:decide (held.length<5)=c1 at ht hf
     cases c1
     ·have h:=hf rfl
      obtain ⟨ht,hf⟩:=zu h
      generalize e2:decide (hA held false= -1)=c2 at ht hf
      cases c2
      ·have h:=hf rfl
       repeat ((conv=>whnf);first|refine zn ?_|refine zf ?_|refine zg ?_|refine za ?_|refine zi (by first|(rw [e0];rfl)|(rw [e1];rfl)|(rw [e2];rfl)) ?_|refine zj (by first|(rw [e0];rfl)|(rw [e1];rfl)|(rw [e2];rfl)) ?_)
       conv=>whnf
       exact ze (hp':= [.mk t0 [.int p,.ptr 1 0 0 [],.nilptr,.str held,.int (hA held false)],.mk tka [.int aw,.str akey,.str aiv,.int am]]) [0,1] h
      ·have h:=ht rfl
       obtain ⟨ht,hf⟩:=zu h
       generalize e3:decide ((held.length:Int)<5+hN held)=c3 at ht hf
       cases c3
       ·have h:=hf rfl
        repeat ((conv=>whnf);first|refine zn ?_|refine zf ?_|refine zg ?_|refine za ?_|refine zi (by first|(rw [e0];rfl)|(rw [e1];rfl)|(rw [e2];rfl)|(rw [e3];rfl)) ?_|refine zj (by first|(rw [e0];rfl)|(rw [e1];rfl)|(rw [e2];rfl)|(rw [e3];rfl)) ?_)
        conv=>whnf
        exact ze (hp':= [.mk t0 [.int p,.ptr 1 0 0 [],.nilptr,.str (hR held),.int (-1)],.mk tka [.int aw,.str akey,.str aiv,.int am]]) [0,1] h
       ·have h:=ht rfl
        repeat ((conv=>whnf);first|refine zn ?_|refine zf ?_|refine zg ?_|refine za ?_|refine zi (by first|(rw [e0];rfl)|(rw [e1];rfl)|(rw [e2];rfl)|(rw [e3];rfl)) ?_|refine zj (by first|(rw [e0];rfl)|(rw [e1];rfl)|(rw [e2];rfl)|(rw [e3];rfl)) ?_)
        conv=>whnf
        exact ze (hp':= [.mk t0 [.int p,.ptr 1 0 0 [],.nilptr,.str held,.int (-1)],.mk tka [.int aw,.str akey,.str aiv,.int am]]) [0,1] h
     ·have h:=ht rfl
      repeat ((conv=>whnf);first|refine zn ?_|refine zf ?_|refine zg ?_|refine za ?_|refine zi (by first|(rw [e0];rfl)|(rw [e1];rfl)) ?_|refine zj (by first|(rw [e0];rfl)|(rw [e1];rfl)) ?_)
      conv=>whnf
      exact ze (hp':= [.mk t0 [.int p,.ptr 1 0 0 [],.nilptr,.str held,.int (-1)],.mk tka [.int aw,.str akey,.str aiv,.int am]]) [0,1] h
   ·rename_i t0 p held f tkb bw bkey biv bm
    obtain ⟨hpre,h⟩:=zl h
    obtain ⟨ht,hf⟩:=zu h
    generalize e0:decide (f= -1)=c0 at ht hf
    cases c0
    ·have h:=hf rfl
     repeat ((conv=>whnf);first|refine zn ?_|refine zf ?_|refine zg ?_|refine za ?_|refine zi (by first|(rw [e0];rfl)) ?_|refine zj (by first|(rw [e0];rfl)) ?_)
     conv=>whnf
     exact ze (hp':= [.mk t0 [.int p,.nilptr,.ptr 1 0 0 [],.str held,.int f],.mk tkb [.int bw,.str bkey,.str biv,.int bm]]) [0,1] h
    ·have h:=ht rfl
     obtain ⟨ht,hf⟩:=zu h
     generalize e1:decide (held.length<5)=c1 at ht hf
     cases c1
     ·have h:=hf rfl
      obtain ⟨ht,hf⟩:=zu h
      generalize e2:decide (hA held true= -1)=c2 at ht hf
      cases c2
      ·have h:=hf rfl
       repeat ((conv=>whnf);first|refine zn ?_|refine zf ?_|refine zg ?_|refine za ?_|refine zi (by first|(rw [e0];rfl)|(rw [e1];rfl)|(rw [e2];rfl)) ?_|refine zj (by first|(rw [e0];rfl)|(rw [e1];rfl)|(rw [e2];rfl)) ?_)
       conv=>whnf
       exact ze (hp':= [.mk t0 [.int p,.nilptr,.ptr 1 0 0 [],.str held,.int (hA held true)],.mk tkb [.int bw,.str bkey,.str biv,.int bm]]) [0,1] h
      ·have h:=ht rfl
       obtain ⟨ht,hf⟩:=zu h
       generalize e3:decide ((held.length:Int)<5+hN held)=c3 at ht hf
       cases c3
       ·have h:=hf rfl
        obtain ⟨ht,hf⟩:=zu h
        generalize e4:decide (hK held=20)=c4 at ht hf
        cases c4
        ·have h:=hf rfl
         obtain ⟨ht,hf⟩:=zu h
         generalize e5:decide (hO bw bkey biv bm held)=c5 at ht hf
         cases c5
         ·have h:=hf rfl
          repeat ((conv=>whnf);first|refine zn ?_|refine zf ?_|refine zg ?_|refine za ?_|refine zi (by first|(rw [e0];rfl)|(rw [e1];rfl)|(rw [e2];rfl)|(rw [e3];rfl)|(rw [e4];rfl)|(rw [e5];rfl)) ?_|refine zj (by first|(rw [e0];rfl)|(rw [e1];rfl)|(rw [e2];rfl)|(rw [e3];rfl)|(rw [e4];rfl)|(rw [e5];rfl)) ?_)
          conv=>whnf
          exact ze (hp':= [.mk t0 [.int p,.nilptr,.ptr 1 0 0 [],.str held,.int 20],.mk tkb [.int bw,.str bkey,.str biv,.int bm]]) [0,1] h
         ·have h:=ht rfl
          obtain ⟨ht,hf⟩:=zu h
          generalize e6:decide (iA (hP bw bkey biv bm held)= -1)=c6 at ht hf
          cases c6
          ·have h:=hf rfl
           repeat ((conv=>whnf);first|refine zn ?_|refine zf ?_|refine zg ?_|refine za ?_|refine zi (by first|(rw [e0];rfl)|(rw [e1];rfl)|(rw [e2];rfl)|(rw [e3];rfl)|(rw [e4];rfl)|(rw [e5];rfl)|(rw [e6];rfl)) ?_|refine zj (by first|(rw [e0];rfl)|(rw [e1];rfl)|(rw [e2];rfl)|(rw [e3];rfl)|(rw [e4];rfl)|(rw [e5];rfl)|(rw [e6];rfl)) ?_)
           conv=>whnf
           exact ze (hp':= [.mk t0 [.int p,.nilptr,.ptr 1 0 0 [],.str held,.int (iA (hP bw bkey biv bm held))],.mk tkb [.int bw,.str bkey,.str biv,.int (bm+1)]]) [0,1] h
          ·have h:=ht rfl
           repeat ((conv=>whnf);first|refine zn ?_|refine zf ?_|refine zg ?_|refine za ?_|refine zi (by first|(rw [e0];rfl)|(rw [e1];rfl)|(rw [e2];rfl)|(rw [e3];rfl)|(rw [e4];rfl)|(rw [e5];rfl)|(rw [e6];rfl)) ?_|refine zj (by first|(rw [e0];rfl)|(rw [e1];rfl)|(rw [e2];rfl)|(rw [e3];rfl)|(rw [e4];rfl)|(rw [e5];rfl)|(rw [e6];rfl)) ?_)
           conv=>whnf
           exact ze (hp':= [.mk t0 [.int p,.nilptr,.ptr 1 0 0 [],.str (hR held),.int (-1)],.mk tkb [.int bw,.str bkey,.str biv,.int (bm+1)]]) [0,1] h
        ·have h:=ht rfl
         repeat ((conv=>whnf);first|refine zn ?_|refine zf ?_|refine zg ?_|refine za ?_|refine zi (by first|(rw [e0];rfl)|(rw [e1];rfl)|(rw [e2];rfl)|(rw [e3];rfl)|(rw [e4];rfl)) ?_|refine zj (by first|(rw [e0];rfl)|(rw [e1];rfl)|(rw [e2];rfl)|(rw [e3];rfl)|(rw [e4];rfl)) ?_)
         conv=>whnf
         exact ze (hp':= [.mk t0 [.int p,.nilptr,.ptr 1 0 0 [],.str (hR held),.int (-1)],.mk tkb [.int bw,.str bkey,.str biv,.int bm]]) [0,1] h
       ·have h:=ht rfl
        repeat ((conv=>whnf);first|refine zn ?_|refine zf ?_|refine zg ?_|refine za ?_|refine zi (by first|(rw [e0];rfl)|(rw [e1];rfl)|(rw [e2];rfl)|(rw [e3];rfl)) ?_|refine zj (by first|(rw [e0];rfl)|(rw [e1];rfl)|(rw [e2];rfl)|(rw [e3];rfl)) ?_)
        conv=>whnf
        exact ze (hp':= [.mk t0 [.int p,.nilptr,.ptr 1 0 0 [],.str held,.int (-1)],.mk tkb [.int bw,.str bkey,.str biv,.int bm]]) [0,1] h
     ·have h:=ht rfl
      repeat ((conv=>whnf);first|refine zn ?_|refine zf ?_|refine zg ?_|refine za ?_|refine zi (by first|(rw [e0];rfl)|(rw [e1];rfl)) ?_|refine zj (by first|(rw [e0];rfl)|(rw [e1];rfl)) ?_)
      conv=>whnf
      exact ze (hp':= [.mk t0 [.int p,.nilptr,.ptr 1 0 0 [],.str held,.int (-1)],.mk tkb [.int bw,.str bkey,.str biv,.int bm]]) [0,1] h
   ·rename_i t0 p held f tka aw akey aiv am tkb bw bkey biv bm
    obtain ⟨hpre,h⟩:=zl h
    obtain ⟨ht,hf⟩:=zu h
    generalize e0:decide (f= -1)=c0 at ht hf
    cases c0
    ·have h:=hf rfl
     repeat ((conv=>whnf);first|refine zn ?_|refine zf ?_|refine zg ?_|refine za ?_|refine zi (by first|(rw [e0];rfl)) ?_|refine zj (by first|(rw [e0];rfl)) ?_)
     conv=>whnf
     exact ze (hp':= [.mk t0 [.int p,.ptr 1 0 0 [],.ptr 2 0 0 [],.str held,.int f],.mk tka [.int aw,.str akey,.str aiv,.int am],.mk tkb [.int bw,.str bkey,.str biv,.int bm]]) [0,1,2] h
    ·have h:=ht rfl
     obtain ⟨ht,hf⟩:=zu h
     generalize e1:decide (held.length<5)=c1 at ht hf
     cases c1
     ·have h:=hf rfl
      obtain ⟨ht,hf⟩:=zu h
      generalize e2:decide (hA held true= -1)=c2 at ht hf
      cases c2
      ·have h:=hf rfl
       repeat ((conv=>whnf);first|refine zn ?_|refine zf ?_|refine zg ?_|refine za ?_|refine zi (by first|(rw [e0];rfl)|(rw [e1];rfl)|(rw [e2];rfl)) ?_|refine zj (by first|(rw [e0];rfl)|(rw [e1];rfl)|(rw [e2];rfl)) ?_)
       conv=>whnf
       exact ze (hp':= [.mk t0 [.int p,.ptr 1 0 0 [],.ptr 2 0 0 [],.str held,.int (hA held true)],.mk tka [.int aw,.str akey,.str aiv,.int am],.mk tkb [.int bw,.str bkey,.str biv,.int bm]]) [0,1,2] h
      ·have h:=ht rfl
       obtain ⟨ht,hf⟩:=zu h
       generalize e3:decide ((held.length:Int)<5+hN held)=c3 at ht hf
       cases c3
       ·have h:=hf rfl
        obtain ⟨ht,hf⟩:=zu h
        generalize e4:decide (hK held=20)=c4 at ht hf
        cases c4
        ·have h:=hf rfl
         obtain ⟨ht,hf⟩:=zu h
         generalize e5:decide (hO bw bkey biv bm held)=c5 at ht hf
         cases c5
         ·have h:=hf rfl
          repeat ((conv=>whnf);first|refine zn ?_|refine zf ?_|refine zg ?_|refine za ?_|refine zi (by first|(rw [e0];rfl)|(rw [e1];rfl)|(rw [e2];rfl)|(rw [e3];rfl)|(rw [e4];rfl)|(rw [e5];rfl)) ?_|refine zj (by first|(rw [e0];rfl)|(rw [e1];rfl)|(rw [e2];rfl)|(rw [e3];rfl)|(rw [e4];rfl)|(rw [e5];rfl)) ?_)
          conv=>whnf
          exact ze (hp':= [.mk t0 [.int p,.ptr 1 0 0 [],.ptr 2 0 0 [],.str held,.int 20],.mk tka [.int aw,.str akey,.str aiv,.int am],.mk tkb [.int bw,.str bkey,.str biv,.int bm]]) [0,1,2] h
         ·have h:=ht rfl
          obtain ⟨ht,hf⟩:=zu h
          generalize e6:decide (iA (hP bw bkey biv bm held)= -1)=c6 at ht hf
          cases c6
          ·have h:=hf rfl
           repeat ((conv=>whnf);first|refine zn ?_|refine zf ?_|refine zg ?_|refine za ?_|refine zi (by first|(rw [e0];rfl)|(rw [e1];rfl)|(rw [e2];rfl)|(rw [e3];rfl)|(rw [e4];rfl)|(rw [e5];rfl)|(rw [e6];rfl)) ?_|refine zj (by first|(rw [e0];rfl)|(rw [e1];rfl)|(rw [e2];rfl)|(rw [e3];rfl)|(rw [e4];rfl)|(rw [e5];rfl)|(rw [e6];rfl)) ?_)
           conv=>whnf
           exact ze (hp':= [.mk t0 [.int p,.ptr 1 0 0 [],.ptr 2 0 0 [],.str held,.int (iA (hP bw bkey biv bm held))],.mk tka [.int aw,.str akey,.str aiv,.int am],.mk tkb [.int bw,.str bkey,.str biv,.int (bm+1)]]) [0,1,2] h
          ·have h:=ht rfl
           repeat ((conv=>whnf);first|refine zn ?_|refine zf ?_|refine zg ?_|refine za ?_|refine zi (by first|(rw [e0];rfl)|(rw [e1];rfl)|(rw [e2];rfl)|(rw [e3];rfl)|(rw [e4];rfl)|(rw [e5];rfl)|(rw [e6];rfl)) ?_|refine zj (by first|(rw [e0];rfl)|(rw [e1];rfl)|(rw [e2];rfl)|(rw [e3];rfl)|(rw [e4];rfl)|(rw [e5];rfl)|(rw [e6];rfl)) ?_)
           conv=>whnf
           exact ze (hp':= [.mk t0 [.int p,.ptr 1 0 0 [],.ptr 2 0 0 [],.str (hR held),.int (-1)],.mk tka [.int aw,.str akey,.str aiv,.int am],.mk tkb [.int bw,.str bkey,.str biv,.int (bm+1)]]) [0,1,2] h
        ·have h:=ht rfl
         repeat ((conv=>whnf);first|refine zn ?_|refine zf ?_|refine zg ?_|refine za ?_|refine zi (by first|(rw [e0];rfl)|(rw [e1];rfl)|(rw [e2];rfl)|(rw [e3];rfl)|(rw [e4];rfl)) ?_|refine zj (by first|(rw [e0];rfl)|(rw [e1];rfl)|(rw [e2];rfl)|(rw [e3];rfl)|(rw [e4];rfl)) ?_)
         conv=>whnf
         exact ze (hp':= [.mk t0 [.int p,.ptr 1 0 0 [],.ptr 2 0 0 [],.str (hR held),.int (-1)],.mk tka [.int aw,.str akey,.str aiv,.int am],.mk tkb [.int bw,.str bkey,.str biv,.int bm]]) [0,1,2] h
       ·have h:=ht rfl
        repeat ((conv=>whnf);first|refine zn ?_|refine zf ?_|refine zg ?_|refine za ?_|refine zi (by first|(rw [e0];rfl)|(rw [e1];rfl)|(rw [e2];rfl)|(rw [e3];rfl)) ?_|refine zj (by first|(rw [e0];rfl)|(rw [e1];rfl)|(rw [e2];rfl)|(rw [e3];rfl)) ?_)
        conv=>whnf
        exact ze (hp':= [.mk t0 [.int p,.ptr 1 0 0 [],.ptr 2 0 0 [],.str held,.int (-1)],.mk tka [.int aw,.str akey,.str aiv,.int am],.mk tkb [.int bw,.str bkey,.str biv,.int bm]]) [0,1,2] h
     ·have h:=ht rfl
      repeat ((conv=>whnf);first|refine zn ?_|refine zf ?_|refine zg ?_|refine za ?_|refine zi (by first|(rw [e0];rfl)|(rw [e1];rfl)) ?_|refine zj (by first|(rw [e0];rfl)|(rw [e1];rfl)) ?_)
      conv=>whnf
      exact ze (hp':= [.mk t0 [.int p,.ptr 1 0 0 [],.ptr 2 0 0 [],.str held,.int (-1)],.mk tka [.int aw,.str akey,.str aiv,.int am],.mk tkb [.int bw,.str bkey,.str biv,.int bm]]) [0,1,2] h
   ·exact h.elim
end Go.Sym.A

namespace Go.Sym.A
open Go Go.Proofs.Try Go.Sym.Lp Go.Sym.Cha Go.Sym.Sha Go.Sym.Hk Go.Sym.Gcm Go.Sym.Aes
set_option maxRecDepth 100000
def z9f:List (Nat×List PStep):= []
def z8y:List (Nat×List PStep):= []
theorem z17 (W:List UInt8) (R:Nat) (nonce:List UInt8) (n:UInt32) (s:List UInt8):gst W R nonce n (gst W R nonce n s)=s:=by
  have e: ∀i,i<s.length→stG W R nonce n (gst W R nonce n s) i=s.getD i 0:=by
    intro i hi
    unfold stG
    have:(gst W R nonce n s).getD i 0=stG W R nonce n s i:=by unfold gst;exact zc1 _ _ hi 0
    rw [this]
    unfold stG
    rw [UInt8.xor_assoc,UInt8.xor_self,UInt8.xor_zero]
  have h1: ∀t:List UInt8,t.length=s.length→gst W R nonce n t=(List.range s.length).map (stG W R nonce n t):=fun t ht=>by unfold gst;rw [ht]
  rw [h1 _ (zpa _ _ _ _ _),y9 e]
  exact zfr rfl 0
theorem zv3 (key nonce:List UInt8) (n:UInt32) (s:List UInt8):xo key nonce n (xo key nonce n s)=s:=by
  have e: ∀i,i<s.length→zgr key nonce n (xo key nonce n s) i=s.getD i 0:=by
    intro i hi
    unfold zgr
    have:(xo key nonce n s).getD i 0=zgr key nonce n s i:=by unfold xo;exact zc1 _ _ hi 0
    rw [this]
    unfold zgr
    rw [UInt8.xor_assoc,UInt8.xor_self,UInt8.xor_zero]
  have h1: ∀t:List UInt8,t.length=s.length→xo key nonce n t=(List.range s.length).map (zgr key nonce n t):=fun t ht=>by unfold xo;rw [ht]
  rw [h1 _ (zhl _ _ _ _),y9 e]
  exact zfr rfl 0
theorem zzr (w:Int) (key nonce s:List UInt8):yv w key nonce (yv w key nonce s)=s:=by
  unfold yv
  split
  ·exact zv3 _ _ _ _
  ·unfold zfu;exact z17 _ _ _ _ _
theorem zqr {s:List UInt8} {k:UInt8} {z:Nat} (hk:k≠0): ∀y,y≤z→lnz (s++k ::List.replicate z 0) (s.length+1+y)=s.length+1
  |0,_=>by
   show lnz _ (s.length+1)=_
   simp only [lnz]
   have e:(s++k ::List.replicate z 0).getD s.length 0=k:=by rw [List.getD_eq_getElem?_getD,List.getElem?_append_right (Nat.le_refl _),Nat.sub_self];rfl
   rw [if_neg (by rw [e];exact hk)]
  |y+1,h=>by
   show lnz _ (s.length+1+y+1)=_
   simp only [lnz]
   have e:(s++k ::List.replicate z 0).getD (s.length+1+y) 0=0:=by
     rw [List.getD_eq_getElem?_getD,List.getElem?_append_right (by omega),show s.length+1+y-s.length=y+1 by omega,List.getElem?_cons_succ,List.getElem?_replicate,if_pos (by omega)];rfl
   rw [if_pos e]
   exact zqr hk y (by omega)
theorem zkv {p kind:Int} {s:List UInt8} (hs:s.length≤16384) (hp:0≤p):((zaq p kind s).length:Int)=inL p s.length∧inL p s.length≤16385:=by
  obtain ⟨h1,h2⟩:=zpn (p:=p) (n:=(s.length:Int)) (by omega) (by omega) hp
  refine ⟨?_,h2⟩
  unfold zaq
  rw [List.length_append,List.length_cons,List.length_replicate]
  omega
theorem zd6 {k:Int} (h:0≤k∧k≤255):((UInt8.ofInt k).toNat:Int)=k:=by rw [zcs];omega
theorem zpi {p kind:Int} {s:List UInt8} (hs:s.length≤16384) (hp:0≤p) (hk:kind=21∨kind=22∨kind=23):
    lnz (zaq p kind s) (zaq p kind s).length=s.length+1∧iK (zaq p kind s)=kind∧iA (zaq p kind s)= -1∧(zaq p kind s).take (lnz (zaq p kind s) (zaq p kind s).length-1)=s:=by
  obtain ⟨hl,h2⟩:=zkv (kind:=kind) hs hp
  have hkk:((UInt8.ofInt kind).toNat:Int)=kind:=zd6 (by omega)
  have hne:UInt8.ofInt kind≠0:=fun h=>by rw [h] at hkk;change (0:Int)=kind at hkk;omega
  have h1:lnz (zaq p kind s) (zaq p kind s).length=s.length+1:=by
    have hz:(zaq p kind s).length=s.length+1+((inL p s.length).toNat-s.length-1):=by
      unfold zaq;rw [List.length_append,List.length_cons,List.length_replicate];omega
    rw [hz];unfold zaq;exact zqr hne _ (Nat.le_refl _)
  have h3:iK (zaq p kind s)=kind:=by
    unfold iK;rw [h1,Nat.add_sub_cancel]
    have e:(zaq p kind s).getD s.length 0=UInt8.ofInt kind:=by unfold zaq;rw [List.getD_eq_getElem?_getD,List.getElem?_append_right (Nat.le_refl _),Nat.sub_self];rfl
    rw [e,hkk]
  refine ⟨h1,h3,?_,?_⟩
  ·unfold iA
   rw [if_neg (by omega),if_neg (by rw [h1];omega),if_pos (by rw [h3];exact hk)]
  ·rw [h1,Nat.add_sub_cancel];unfold zaq;exact List.take_left' rfl
theorem z57 {k n:Int} (t:List UInt8) (h:0≤n∧n≤65535):hN (hdF k n++t)=n:=by
  have e:hN (hdF k n++t)=256*((UInt8.ofInt (n/ 2^8)).toNat:Int)+((UInt8.ofInt n).toNat:Int):=rfl
  rw [e,zcs,zcs]
  have:(2:Int)^8=256:=rfl
  rw [this];omega
theorem z58 {k n:Int} (t:List UInt8) (h:0≤k∧k≤255):hK (hdF k n++t)=k:=by
  have e:hK (hdF k n++t)=((UInt8.ofInt k).toNat:Int):=rfl
  rw [e,zd6 h]
theorem z3g {h:List UInt8} {b:Bool} {k n:Int} (hk:hK h=k) (hn:hN h=n) (h1:zw k) (h2:n≤(if b=true∧k=23 then 16640 else 16384)) (h3: ¬(b=true∧(k=21∨k=22))):hA h b= -1:=by
  unfold hA
  rw [hk,hn,if_pos h1,if_neg (by omega),if_neg h3]
theorem zc9 (w:Int) (key nonce aad s:List UInt8):(xl w key nonce aad s).length=s.length+16:=by
  rw [zav,List.length_append,xc,zaz]
theorem zdi {p w:Int} {key iv:List UInt8} {m kind:Int} {s:List UInt8} (hs:s.length≤16384) (hp:0≤p):((zy p w key iv m kind s).length:Int)=21+inL p s.length:=by
  obtain ⟨hl,h2⟩:=zkv (kind:=kind) hs hp
  unfold zy
  rw [List.length_append,zc9,zay];omega
theorem zlg {p w:Int} {key iv:List UInt8} {m kind:Int} {s:List UInt8} (t:List UInt8) (hs:s.length≤16384) (hp:0≤p):
    5≤(zy p w key iv m kind s++t).length∧hA (zy p w key iv m kind s++t) true= -1∧hK (zy p w key iv m kind s++t)=23∧5+hN (zy p w key iv m kind s++t)≤((zy p w key iv m kind s++t).length:Int)∧hO w key iv m (zy p w key iv m kind s++t)∧hP w key iv m (zy p w key iv m kind s++t)=zaq p kind s∧hR (zy p w key iv m kind s++t)=t:=by
  obtain ⟨hl,h2⟩:=zkv (kind:=kind) hs hp
  obtain ⟨h3,_⟩:=zpn (p:=p) (n:=(s.length:Int)) (by omega) (by omega) hp
  have hL:=zdi (w:=w) (key:=key) (iv:=iv) (m:=m) (kind:=kind) hs hp
  have hb:0≤inL p s.length+16∧inL p s.length+16≤65535:=⟨by omega,by omega⟩
  have hK0:hK (zy p w key iv m kind s++t)=23:=by unfold zy;rw [List.append_assoc];exact z58 _ (by decide)
  have hN0:hN (zy p w key iv m kind s++t)=inL p s.length+16:=by unfold zy;rw [List.append_assoc];exact z57 _ hb
  have hSl:((xl w key (ncF iv m) (hdF 23 (inL p s.length+16)) (zaq p kind s)).length:Int)=inL p s.length+16:=by rw [zc9];omega
  have hT0:hT (zy p w key iv m kind s++t)=xl w key (ncF iv m) (hdF 23 (inL p s.length+16)) (zaq p kind s):=by
    unfold hT
    rw [hN0]
    unfold zy
    rw [List.append_assoc,List.drop_left' (zay _ _)]
    exact List.take_left' (by omega)
  have hTt:(hT (zy p w key iv m kind s++t)).take ((hT (zy p w key iv m kind s++t)).length-16)=yv w key (ncF iv m) (zaq p kind s):=by
    rw [hT0,zc9,Nat.add_sub_cancel,zav];exact List.take_left' (xc _ _ _ _)
  have hTd:(hT (zy p w key iv m kind s++t)).drop ((hT (zy p w key iv m kind s++t)).length-16)=zap w key (ncF iv m) (hdF 23 (inL p s.length+16)) (yv w key (ncF iv m) (zaq p kind s)):=by
    rw [hT0,zc9,Nat.add_sub_cancel,zav];exact List.drop_left' (xc _ _ _ _)
  have hT5:(zy p w key iv m kind s++t).take 5=hdF 23 (inL p s.length+16):=by
    unfold zy;rw [List.append_assoc];exact List.take_left' (zay _ _)
  refine ⟨by rw [List.length_append];omega,z3g hK0 hN0 (by decide) (by rw [if_pos ⟨rfl,rfl⟩];omega) (by decide),hK0,by rw [hN0,List.length_append];omega,?_,?_,?_⟩
  ·unfold hO
   rw [hTt,hTd,hT5,hT0,zc9]
   exact ⟨by omega,rfl⟩
  ·unfold hP
   rw [hTt,zzr]
  ·unfold hR
   rw [hN0]
   exact List.drop_left' (by omega)
attribute [local irreducible] zb8 exF kyF ivF xl zap yv inL ncF lnz iA hA hN hK
def zpp:Spec:=fun args hp K=>match args,hp with
  | [.int k,.int n],[]=>K (.str [UInt8.ofInt k,3,UInt8.ofInt k,UInt8.ofInt (n/ 2^8),UInt8.ofInt n]) []
  |_,_=>False
theorem z2n:zp prog 27 zpp:=by
  refine zo yi zk rfl func27 rfl call27 (D:=z8y) ?_ ?_
  ·intro args hp K h
   unfold zpp at h
   split at h
   ·exact Nat.le_of_ble_eq_true rfl
   ·exact h.elim
  ·intro args hp K h
   unfold zpp at h
   split at h
   ·rename_i k n
    refine wk ?_
    conv=>whnf
    exact ze (hp':= []) [] h
   ·exact h.elim
def z7 (s:List UInt8) (k:Nat):List UInt8:=ovr (List.replicate k 0) 0 (fun j=>s.getD j 0) (min k s.length)
def zth:Spec:=fun args hp K=>match args,hp with
  | [.str s,.int k],[]=>Pre (0≤k∧k≤1000000∧s.length≤140737488351232) (K (.str (z7 s k.toNat)) [])
  |_,_=>False
set_option maxHeartbeats 1000000 in
theorem z1j:zp prog 52 zth:=by
  refine zo yi zk rfl func52 rfl call52 (D:=z9f) ?_ ?_
  ·intro args hp K h
   unfold zth at h
   split at h
   ·exact Nat.le_of_ble_eq_true rfl
   ·exact h.elim
  ·intro args hp K h
   unfold zth at h
   split at h
   ·rename_i s k
    obtain ⟨⟨h0,h1,hsl⟩,h⟩:=zl h
    obtain ⟨n,hn⟩: ∃n:Nat,k=(n:Int):=⟨k.toNat,(Int.toNat_of_nonneg h0).symm⟩
    have hn':k.toNat=n:=by omega
    rw [hn'] at h
    refine wk ?_
    rw [hn']
    refine wk ?_
    refine zt (Ix (min n s.length)) (fun q=>⟨[(0,.str s),(1,.int k),(5,.sl 0 0 0 [] n n),(6,.int q.i)],[.mk 5 [.arr8 n (ovr (List.replicate n 0) 0 (fun j=>s.getD j 0) q.i)]]⟩) (fun q=>(min n s.length)-q.i) ⟨0,Nat.zero_le _⟩ [0] ?_ ?_
    ·repeat ((conv=>whnf);refine za ?_)
     exact trivial
    ·intro q
     have hi:=q.hi
     have hI:((q.i:Int)).toNat=q.i:=Int.toNat_natCast _
     have hol:(ovr (List.replicate n 0) 0 (fun j=>s.getD j 0) q.i).length=n:=by rw [yn (by rw [List.length_replicate];omega),List.length_replicate]
     have hix:off (yc [] ((q.i:Int)).toNat ty5.sz)=q.i:=by rw [zv,hI];show 0+q.i*1=_;omega
     by_cases h4:q.i<min n s.length
     ·refine wk ?_
      refine ⟨⟨q.i+1,h4⟩,[0],by show (min n s.length)-(q.i+1)<(min n s.length)-q.i;omega,?_⟩
      repeat ((conv=>whnf);refine za ?_)
      conv=>whnf
      refine zh (congrArg (fun x=>SV.agg [.arr8 n x]) (show (ovr (List.replicate n 0) 0 (fun j=>s.getD j 0) q.i).set (off (yc [] (q.i:Int).toNat ty5.sz)) (s.getD (q.i:Int).toNat 0)=ovr (List.replicate n 0) 0 (fun j=>s.getD j 0) (q.i+1) by rw [hix,hI];exact yb (by rw [List.length_replicate];omega) rfl (by omega))) ?_
      repeat ((conv=>whnf);refine za ?_)
      exact trivial
     ·have e4:q.i=min n s.length:=by omega
      have hfi:List.take n (List.drop (off []) (ovr (List.replicate n 0) 0 (fun j=>s.getD j 0) q.i))=z7 s n:=by
        show List.take n (List.drop 0 _)=_
        rw [List.drop_zero,List.take_of_length_le (by omega),e4];rfl
      by_cases h5:q.i<n
      ·refine wk ?_
       conv=>whnf
       refine yl (hp':= []) [] h ?_
       repeat ((conv=>whnf);refine za ?_)
       conv=>whnf
       refine zh (congrArg SV.str hfi) ?_
       repeat ((conv=>whnf);refine za ?_)
       exact trivial
      ·refine wk ?_
       conv=>whnf
       refine yl (hp':= []) [] h ?_
       repeat ((conv=>whnf);refine za ?_)
       conv=>whnf
       refine zh (congrArg SV.str hfi) ?_
       repeat ((conv=>whnf);refine za ?_)
       exact trivial
   ·exact h.elim
end Go.Sym.A

namespace Go.Sym.A
open Go Go.Proofs.Try Go.Sym.Lp Go.Sym.Cha Go.Sym.Sha Go.Sym.Hk Go.Sym.Gcm Go.Sym.Aes
set_option maxRecDepth 100000
def z82:List (Nat×List PStep):= []
def abH:List UInt8:= [22,3,3,0,2,97,98]
theorem z42:([]:List UInt8)++List.take (Int.toNat 4) (hdF 22 ((([97,98]:List UInt8).length:Nat):Int)++ [97,98])++List.drop (Int.toNat 4) (hdF 22 ((([97,98]:List UInt8).length:Nat):Int)++ [97,98])=abH:=rfl
theorem z7h:inL 0 ((([120,121,122]:List UInt8).length:Nat):Int)=4:=by decide+kernel
theorem z8g:hA [9,3,3,0,0] true=10:=by decide+kernel
theorem znn:decide (hA abH false= -1)=true:=by decide+kernel
theorem zzn:decide ((abH.length:Int)<5+hN abH)=false:=by decide+kernel
theorem z6u:hK abH=22:=by decide+kernel
theorem z6k:hT abH= [97,98]:=by decide+kernel
theorem z3d:hR abH= []:=by decide+kernel
attribute [local irreducible] abH zb8 exF kyF ivF xl zap yv inL ncF lnz iA hA hN hK zy zaq hO hP hR hT iK z7
def zjy:Spec:=fun args hp K=>match args,hp with
  | [],[]=>K (.bool true) []
  |_,_=>False
set_option maxHeartbeats 4000000 in
theorem zyr:zp prog 24 zjy:=by
  refine zo yi (zd zza (zd zxd (zd zud (zd zvg (zd zua (zd zm7 (zd zrj (zd z1j (zd zuo zk))))))))) rfl func24 rfl call24 (D:=z82) ?_ ?_
  ·intro args hp K h
   unfold zjy at h
   split at h
   ·exact Nat.le_of_ble_eq_true rfl
   ·exact h.elim
  ·intro args hp K h
   unfold zjy at h
   split at h
   ·have hpk:za7 4865 (kyF 4865 (z7 [115] (Int.toNat 32))) (ivF 4865 (z7 [115] (Int.toNat 32))) 0∧(0:Int)≤0∧(0:Int)≤16384∧([120,121,122]:List UInt8).length≤140737488351232:=⟨⟨.inl rfl,zfy _ _,zf5 _ _,by decide,by decide⟩,by decide,by decide,by decide⟩
    have hpr:za7 4865 (kyF 4865 (z7 [115] (Int.toNat 32))) (ivF 4865 (z7 [115] (Int.toNat 32))) 0:=hpk.1
    have hsl:(zy 0 4865 (kyF 4865 (z7 [115] (Int.toNat 32))) (ivF 4865 (z7 [115] (Int.toNat 32))) 0 23 [120,121,122]).length=25:=by
      have:=zdi (p:=0) (w:=4865) (key:=(kyF 4865 (z7 [115] (Int.toNat 32)))) (iv:=(ivF 4865 (z7 [115] (Int.toNat 32)))) (m:=0) (kind:=23) (s:= [120,121,122]) (by decide) (by decide)
      rw [z7h] at this
      omega
    have hp2:za7 4865 (kyF 4865 (z7 [115] (Int.toNat 32))) (ivF 4865 (z7 [115] (Int.toNat 32))) 0∧(hR abH++((zy 0 4865 (kyF 4865 (z7 [115] (Int.toNat 32))) (ivF 4865 (z7 [115] (Int.toNat 32))) 0 23 [120,121,122])++ [9,3,3,0,0])).length<9223372036854775808:=⟨hpr,by rw [z3d,List.nil_append,List.length_append,hsl];decide⟩
    obtain ⟨q1,q2,q3,q4,q5,q6,q7⟩:=zlg (p:=0) (w:=4865) (key:=(kyF 4865 (z7 [115] (Int.toNat 32)))) (iv:=(ivF 4865 (z7 [115] (Int.toNat 32)))) (m:=0) (kind:=23) (s:= [120,121,122]) [9,3,3,0,0] (by decide) (by decide)
    obtain ⟨q8,q9,q10,q11⟩:=zpi (p:=0) (kind:=23) (s:= [120,121,122]) (by decide) (by decide) (by decide)
    refine wk ?_
    rw [z42]
    repeat ((conv=>whnf);first|refine zn ?_|refine zf ?_|refine zg ?_|refine za ?_|refine zq (by first|exact znn|(rw [znn];rfl)|exact zzn) ?_|refine zi (by first|exact znn|(rw [znn];rfl)|exact zzn) ?_|refine zj (by first|exact znn|(rw [znn];rfl)|exact zzn) ?_)
    conv=>whnf
    rw [z3d,List.nil_append]
    have d1:decide (((zy 0 4865 (kyF 4865 (z7 [115] (Int.toNat 32))) (ivF 4865 (z7 [115] (Int.toNat 32))) 0 23 [120,121,122])++ [9,3,3,0,0]).length<5)=false:=decide_eq_false (by omega)
    have d2:decide (hA ((zy 0 4865 (kyF 4865 (z7 [115] (Int.toNat 32))) (ivF 4865 (z7 [115] (Int.toNat 32))) 0 23 [120,121,122])++ [9,3,3,0,0]) true= -1)=true:=decide_eq_true q2
    have d3:decide ((((zy 0 4865 (kyF 4865 (z7 [115] (Int.toNat 32))) (ivF 4865 (z7 [115] (Int.toNat 32))) 0 23 [120,121,122])++ [9,3,3,0,0]).length:Int)<5+hN ((zy 0 4865 (kyF 4865 (z7 [115] (Int.toNat 32))) (ivF 4865 (z7 [115] (Int.toNat 32))) 0 23 [120,121,122])++ [9,3,3,0,0]))=false:=decide_eq_false (by omega)
    have d4:decide (hK ((zy 0 4865 (kyF 4865 (z7 [115] (Int.toNat 32))) (ivF 4865 (z7 [115] (Int.toNat 32))) 0 23 [120,121,122])++ [9,3,3,0,0])=20)=false:=decide_eq_false (by omega)
    have d5:decide (hO 4865 (kyF 4865 (z7 [115] (Int.toNat 32))) (ivF 4865 (z7 [115] (Int.toNat 32))) 0 ((zy 0 4865 (kyF 4865 (z7 [115] (Int.toNat 32))) (ivF 4865 (z7 [115] (Int.toNat 32))) 0 23 [120,121,122])++ [9,3,3,0,0]))=true:=decide_eq_true q5
    have d6:decide (iA (hP 4865 (kyF 4865 (z7 [115] (Int.toNat 32))) (ivF 4865 (z7 [115] (Int.toNat 32))) 0 ((zy 0 4865 (kyF 4865 (z7 [115] (Int.toNat 32))) (ivF 4865 (z7 [115] (Int.toNat 32))) 0 23 [120,121,122])++ [9,3,3,0,0]))= -1)=true:=decide_eq_true (by rw [q6];exact q10)
    have hp3:za7 4865 (kyF 4865 (z7 [115] (Int.toNat 32))) (ivF 4865 (z7 [115] (Int.toNat 32))) (0+1)∧(hR ((zy 0 4865 (kyF 4865 (z7 [115] (Int.toNat 32))) (ivF 4865 (z7 [115] (Int.toNat 32))) 0 23 [120,121,122])++ [9,3,3,0,0])).length<9223372036854775808:=⟨⟨.inl rfl,zfy _ _,zf5 _ _,by decide,by decide⟩,by rw [q7];decide⟩
    have d7:decide ((hR ((zy 0 4865 (kyF 4865 (z7 [115] (Int.toNat 32))) (ivF 4865 (z7 [115] (Int.toNat 32))) 0 23 [120,121,122])++ [9,3,3,0,0])).length<5)=false:=decide_eq_false (by rw [q7];decide)
    have hA7:hA (hR ((zy 0 4865 (kyF 4865 (z7 [115] (Int.toNat 32))) (ivF 4865 (z7 [115] (Int.toNat 32))) 0 23 [120,121,122])++ [9,3,3,0,0])) true=10:=by rw [q7];exact z8g
    have d8:decide (hA (hR ((zy 0 4865 (kyF 4865 (z7 [115] (Int.toNat 32))) (ivF 4865 (z7 [115] (Int.toNat 32))) 0 23 [120,121,122])++ [9,3,3,0,0])) true= -1)=false:=decide_eq_false (by rw [hA7];decide)
    have d9:(decide (hK abH=22)&&(decide (hT abH= [97,98])&&true))=true:=by rw [z6u,z6k];rfl
    have d10:decide (((zy 0 4865 (kyF 4865 (z7 [115] (Int.toNat 32))) (ivF 4865 (z7 [115] (Int.toNat 32))) 0 23 [120,121,122]).length:Int)=25)=true:=decide_eq_true (by omega)
    have d11:decide (iK (hP 4865 (kyF 4865 (z7 [115] (Int.toNat 32))) (ivF 4865 (z7 [115] (Int.toNat 32))) 0 ((zy 0 4865 (kyF 4865 (z7 [115] (Int.toNat 32))) (ivF 4865 (z7 [115] (Int.toNat 32))) 0 23 [120,121,122])++ [9,3,3,0,0]))=23)=true:=decide_eq_true (by rw [q6];exact q9)
    have d12:decide ((hP 4865 (kyF 4865 (z7 [115] (Int.toNat 32))) (ivF 4865 (z7 [115] (Int.toNat 32))) 0 ((zy 0 4865 (kyF 4865 (z7 [115] (Int.toNat 32))) (ivF 4865 (z7 [115] (Int.toNat 32))) 0 23 [120,121,122])++ [9,3,3,0,0])).take (lnz (hP 4865 (kyF 4865 (z7 [115] (Int.toNat 32))) (ivF 4865 (z7 [115] (Int.toNat 32))) 0 ((zy 0 4865 (kyF 4865 (z7 [115] (Int.toNat 32))) (ivF 4865 (z7 [115] (Int.toNat 32))) 0 23 [120,121,122])++ [9,3,3,0,0])) (hP 4865 (kyF 4865 (z7 [115] (Int.toNat 32))) (ivF 4865 (z7 [115] (Int.toNat 32))) 0 ((zy 0 4865 (kyF 4865 (z7 [115] (Int.toNat 32))) (ivF 4865 (z7 [115] (Int.toNat 32))) 0 23 [120,121,122])++ [9,3,3,0,0])).length-1)= [120,121,122])=true:=decide_eq_true (by rw [q6];exact q11)
    have d13:decide (hA (hR ((zy 0 4865 (kyF 4865 (z7 [115] (Int.toNat 32))) (ivF 4865 (z7 [115] (Int.toNat 32))) 0 23 [120,121,122])++ [9,3,3,0,0])) true=10)=true:=decide_eq_true hA7
    repeat ((conv=>whnf);first|refine zn ?_|refine zf ?_|refine zg ?_|refine za ?_|refine zq (by first|exact d1|exact d2|exact d3|exact d4|exact d5|exact d6|exact d7|exact d8|exact d9|(rw [d9];rfl)|exact d10|(rw [d10];rfl)|exact d13|(rw [d13];rfl)|(rw [d11,d12];rfl)) ?_|refine zi (by first|exact d1|exact d2|exact d3|exact d4|exact d5|exact d6|exact d7|exact d8|exact d9|(rw [d9];rfl)|exact d10|(rw [d10];rfl)|exact d13|(rw [d13];rfl)|(rw [d11,d12];rfl)) ?_|refine zj (by first|exact d1|exact d2|exact d3|exact d4|exact d5|exact d6|exact d7|exact d8|exact d9|(rw [d9];rfl)|exact d10|(rw [d10];rfl)|exact d13|(rw [d13];rfl)|(rw [d11,d12];rfl)) ?_)
    conv=>whnf
    conv=>whnf
    exact ze (hp':= []) [] h
   ·exact h.elim
def zq6 (nt:Nat) (ty:List (Nat×TyI)) (fs:List (Nat×Spec)) (w:World) (rs:List Row):Ctx:={nt:=nt,ty:=ty,fn:=fs,E:=fun w'=>Ext (fun _=>False) w w',ext:=zcv rs}
def zes:List (Nat×Spec):= [(25,zu6),(17,zt2),(31,zo4),(28,zn8),(29,zp5),(30,zhg),(26,zj2),(32,zon),(24,zjy),(27,zpp)]
theorem zfz: ∀f S,yw zes f=some S→zp prog f S:=zd zza (zd zxd (zd zud (zd zvg (zd zua (zd zm7 (zd zrj (zd zuo (zd zyr (zd z2n zk)))))))))
end Go.Sym.A
