/-
  Contracts of functions of the program, each said of symbolic values, and plain laws; no condition beyond each statement's own.
-/
import Derived.Test.YtmmpgjcpielefaaGreatGLRecActs38
set_option linter.unusedSimpArgs false
set_option linter.unusedVariables false
namespace Go.Sym.Z
open Go Go.Proofs.Tryz Go.Sym.Lp Go.Sym.Cha Go.Sym.Sha Go.Sym.Hk
set_option maxRecDepth 100000
attribute [local irreducible] za2 exF kyF ivF xi zau y0 inL ncF
def ylb:List (Nat×List PStep):= [(1,[⟨0,[]⟩,⟨1,[]⟩,⟨2,[]⟩,⟨3,[]⟩,⟨4,[0,1,2,3]⟩,⟨5,[0,1,2,3]⟩,⟨6,[0,1,2,3]⟩,⟨7,[0,1,2,3]⟩,⟨8,[0,1,2,3,4,5,6,7]⟩,⟨10,[0,1,2,3,4,5,6,7,8]⟩,⟨11,[0,1,2,3,4,5,6,7,8,10]⟩,⟨9,[0,1,2,3,4,5,6,7,10,11]⟩,⟨12,[]⟩,⟨13,[]⟩,⟨14,[]⟩,⟨15,[14]⟩,⟨16,[15]⟩,⟨17,[]⟩])]
def yjj:List (Nat×List PStep):= []
def yk7:List (Nat×List PStep):= []
def yjl:List (Nat×List PStep):= []
def zxr:Spec:=fun args hp K=>match args,hp with
  | [.ptr 0 0 0 [],.str h,.str s],[.mk t [.int w,.str key,.str iv,.int m]]=>Pre (za3 w key iv m∧h.length≤100∧s.length≤20000)
      (zx (decide (16≤s.length∧zau w key (ncF iv m) h (s.take (s.length-16))=s.drop (s.length-16)))
        (K (.tup [.str (y0 w key (ncF iv m) (s.take (s.length-16))),.bool true]) [.mk t [.int w,.str key,.str iv,.int (m+1)]])
        (K (.tup [.str [],.bool false]) [.mk t [.int w,.str key,.str iv,.int m]]))
  |_,_=>False
theorem z9t:zp prog 95 zxr:=by
  refine zm y6 (zc z0k (zc yac zi)) rfl func95 rfl call95 (D:=ylb) ?_ ?_
  ·intro args hp K h
   unfold zxr at h
   split at h
   ·exact Nat.le_of_ble_eq_true rfl
   ·exact h.elim
  ·intro args hp K h
   unfold zxr at h
   split at h
   ·rename_i h' s t w key iv m
    obtain ⟨⟨hok,hh,hs⟩,h⟩:=zn h
    obtain ⟨ht,hf⟩:=zw h
    have hky:=zgu hok
    obtain ⟨hw,hkl,hiv,hm0,hm1⟩:=hok
    have hnl:=zk3 iv m
    have hd:decide (zd9 w key.length∧(ncF iv m).length=12∧h'.length≤65536∧(s.length:Int)-16≤65536)=true:=decide_eq_true ⟨hky,by rw [hnl,hiv],by omega,by omega⟩
    generalize e:decide (16≤s.length∧zau w key (ncF iv m) h' (s.take (s.length-16))=s.drop (s.length-16))=c at ht hf
    cases c
    ·have h:=hf rfl
     repeat ((conv=>whnf);first|refine zq ?_|refine zg ?_|refine zf ?_|refine zb ?_|refine zr (by first|exact hd|exact e) ?_|refine zj (by first|exact hd|exact e) ?_|refine zk (by first|exact hd|exact e) ?_)
     conv=>whnf
     exact zd [0] h
    ·have h:=ht rfl
     repeat ((conv=>whnf);first|refine zq ?_|refine zg ?_|refine zf ?_|refine zb ?_|refine zr (by first|exact hd|exact e) ?_|refine zj (by first|exact hd|exact e) ?_|refine zk (by first|exact hd|exact e) ?_)
     conv=>whnf
     exact zd [0] h
   ·exact h.elim
def hK (h:List UInt8):Int:=((h.getD 0 0).toNat:Int)
def hN (h:List UInt8):Int:=256*((h.getD 3 0).toNat:Int)+((h.getD 4 0).toNat:Int)
def hA (h:List UInt8) (keyed:Bool):Int:=
  if yf (hK h) then (if (if keyed=true∧hK h=23 then 16640 else 16384)<hN h then 22 else if keyed=true∧(hK h=21∨hK h=22) then 10 else-1) else 10
def z61:Spec:=fun args hp K=>match args,hp with
  | [.str h,.bool keyed],[]=>Pre (5≤h.length∧h.length<9223372036854775808)
      (zx (decide (hA h keyed= -1)) (K (.tup [.int (hK h),.int (hN h),.int (-1)]) []) (K (.tup [.int 0,.int 0,.int (hA h keyed)]) []))
  |_,_=>False
set_option maxHeartbeats 4000000 in
theorem yem:zp prog 69 z61:=by
  refine zm y6 (zc yh4 (zc z1n zi)) rfl func69 rfl call69 (D:=yjj) ?_ ?_
  ·intro args hp K h
   unfold z61 at h
   split at h
   ·exact Nat.le_of_ble_eq_true rfl
   ·exact h.elim
  ·intro args hp K h
   unfold z61 at h
   split at h
   ·rename_i x keyed
    obtain ⟨⟨hl,hl2⟩,h⟩:=zn h
    obtain ⟨ht,hf⟩:=zw h
    have hpu:0≤(3:Int)∧3+2≤(x.length:Int)∧x.length<9223372036854775808:=⟨by decide,by omega,hl2⟩
    have hkd:hK x=((x.getD (Int.toNat 0) 0).toNat:Int):=rfl
    have hnd:hN x=256*((x.getD (Int.toNat 3) 0).toNat:Int)+((x.getD (Int.toNat 3+1) 0).toNat:Int):=rfl
    have b0:=(x.getD (Int.toNat 0) 0).toNat_lt
    have b3:=(x.getD (Int.toNat 3) 0).toNat_lt
    have b4:=(x.getD (Int.toNat 3+1) 0).toNat_lt
    by_cases h1:yf (hK x)
    ·have d1:decide (yf ((x.getD (Int.toNat 0) 0).toNat:Int))=true:=decide_eq_true h1
     have h1':=h1
     unfold yf at h1'
     by_cases hk:keyed=true
     ·subst hk
      by_cases h23:hK x=23
      ·have d21:decide (((x.getD (Int.toNat 0) 0).toNat:Int)=21)=false:=decide_eq_false (by omega)
       have d22:decide (((x.getD (Int.toNat 0) 0).toNat:Int)=22)=false:=decide_eq_false (by omega)
       by_cases h2:16640<hN x
       ·have hv:hA x true=22:=by unfold hA;rw [if_pos h1,if_pos (show true=true∧hK x=23 from ⟨rfl,h23⟩),if_pos h2]
        have h:=hf (decide_eq_false (by rw [hv];decide))
        rw [hv] at h
        repeat ((conv=>whnf);first|refine zq ?_|refine zg ?_|refine zf ?_|refine zb ?_|refine zr (by first|exact d1|(rw [d1];rfl)|exact d21|(rw [d21];rfl)|exact d22|(rw [d22];rfl)) ?_|refine zj (by first|exact d1|(rw [d1];rfl)|exact d21|(rw [d21];rfl)|exact d22|(rw [d22];rfl)) ?_|refine zk (by first|exact d1|(rw [d1];rfl)|exact d21|(rw [d21];rfl)|exact d22|(rw [d22];rfl)) ?_)
        conv=>whnf
        exact zd [] h
       ·have hv:hA x true= -1:=by unfold hA;rw [if_pos h1,if_pos (show true=true∧hK x=23 from ⟨rfl,h23⟩),if_neg h2,if_neg (fun h=>by omega)]
        have h:=ht (decide_eq_true hv)
        repeat ((conv=>whnf);first|refine zq ?_|refine zg ?_|refine zf ?_|refine zb ?_|refine zr (by first|exact d1|(rw [d1];rfl)|exact d21|(rw [d21];rfl)|exact d22|(rw [d22];rfl)) ?_|refine zj (by first|exact d1|(rw [d1];rfl)|exact d21|(rw [d21];rfl)|exact d22|(rw [d22];rfl)) ?_|refine zk (by first|exact d1|(rw [d1];rfl)|exact d21|(rw [d21];rfl)|exact d22|(rw [d22];rfl)) ?_)
        conv=>whnf
        exact zd [] h
      ·by_cases h2:16384<hN x
       ·have hv:hA x true=22:=by unfold hA;rw [if_pos h1,if_neg (show ¬(true=true∧hK x=23) from fun h=>h23 h.2),if_pos h2]
        have h:=hf (decide_eq_false (by rw [hv];decide))
        rw [hv] at h
        repeat ((conv=>whnf);first|refine zq ?_|refine zg ?_|refine zf ?_|refine zb ?_|refine zr (by first|exact d1|(rw [d1];rfl)|exact d21|(rw [d21];rfl)|exact d22|(rw [d22];rfl)) ?_|refine zj (by first|exact d1|(rw [d1];rfl)|exact d21|(rw [d21];rfl)|exact d22|(rw [d22];rfl)) ?_|refine zk (by first|exact d1|(rw [d1];rfl)|exact d21|(rw [d21];rfl)|exact d22|(rw [d22];rfl)) ?_)
        conv=>whnf
        exact zd [] h
       ·by_cases h21:hK x=21
        ·have d21:decide (((x.getD (Int.toNat 0) 0).toNat:Int)=21)=true:=decide_eq_true h21
         have hv:hA x true=10:=by unfold hA;rw [if_pos h1,if_neg (show ¬(true=true∧hK x=23) from fun h=>h23 h.2),if_neg h2,if_pos (show true=true∧(hK x=21∨hK x=22) from ⟨rfl,.inl h21⟩)]
         have h:=hf (decide_eq_false (by rw [hv];decide))
         rw [hv] at h
         repeat ((conv=>whnf);first|refine zq ?_|refine zg ?_|refine zf ?_|refine zb ?_|refine zr (by first|exact d1|(rw [d1];rfl)|exact d21|(rw [d21];rfl)|exact d22|(rw [d22];rfl)) ?_|refine zj (by first|exact d1|(rw [d1];rfl)|exact d21|(rw [d21];rfl)|exact d22|(rw [d22];rfl)) ?_|refine zk (by first|exact d1|(rw [d1];rfl)|exact d21|(rw [d21];rfl)|exact d22|(rw [d22];rfl)) ?_)
         conv=>whnf
         exact zd [] h
        ·have d21:decide (((x.getD (Int.toNat 0) 0).toNat:Int)=21)=false:=decide_eq_false (by omega)
         by_cases h22:hK x=22
         ·have d22:decide (((x.getD (Int.toNat 0) 0).toNat:Int)=22)=true:=decide_eq_true h22
          have hv:hA x true=10:=by unfold hA;rw [if_pos h1,if_neg (show ¬(true=true∧hK x=23) from fun h=>h23 h.2),if_neg h2,if_pos (show true=true∧(hK x=21∨hK x=22) from ⟨rfl,.inr h22⟩)]
          have h:=hf (decide_eq_false (by rw [hv];decide))
          rw [hv] at h
          repeat ((conv=>whnf);first|refine zq ?_|refine zg ?_|refine zf ?_|refine zb ?_|refine zr (by first|exact d1|(rw [d1];rfl)|exact d21|(rw [d21];rfl)|exact d22|(rw [d22];rfl)) ?_|refine zj (by first|exact d1|(rw [d1];rfl)|exact d21|(rw [d21];rfl)|exact d22|(rw [d22];rfl)) ?_|refine zk (by first|exact d1|(rw [d1];rfl)|exact d21|(rw [d21];rfl)|exact d22|(rw [d22];rfl)) ?_)
          conv=>whnf
          exact zd [] h
         ·have d22:decide (((x.getD (Int.toNat 0) 0).toNat:Int)=22)=false:=decide_eq_false (by omega)
          have hv:hA x true= -1:=by unfold hA;rw [if_pos h1,if_neg (show ¬(true=true∧hK x=23) from fun h=>h23 h.2),if_neg h2,if_neg (fun h=>by omega)]
          have h:=ht (decide_eq_true hv)
          repeat ((conv=>whnf);first|refine zq ?_|refine zg ?_|refine zf ?_|refine zb ?_|refine zr (by first|exact d1|(rw [d1];rfl)|exact d21|(rw [d21];rfl)|exact d22|(rw [d22];rfl)) ?_|refine zj (by first|exact d1|(rw [d1];rfl)|exact d21|(rw [d21];rfl)|exact d22|(rw [d22];rfl)) ?_|refine zk (by first|exact d1|(rw [d1];rfl)|exact d21|(rw [d21];rfl)|exact d22|(rw [d22];rfl)) ?_)
          conv=>whnf
          exact zd [] h
     ·have hk':keyed=false:=by cases keyed;rfl;exact absurd rfl hk
      subst hk'
      by_cases h2:16384<hN x
      ·have hv:hA x false=22:=by unfold hA;rw [if_pos h1,if_neg (show ¬(false=true∧hK x=23) from fun h=>Bool.noConfusion h.1),if_pos h2]
       have h:=hf (decide_eq_false (by rw [hv];decide))
       rw [hv] at h
       repeat ((conv=>whnf);first|refine zq ?_|refine zg ?_|refine zf ?_|refine zb ?_|refine zr (by first|exact d1|(rw [d1];rfl)|exact d21|(rw [d21];rfl)|exact d22|(rw [d22];rfl)) ?_|refine zj (by first|exact d1|(rw [d1];rfl)|exact d21|(rw [d21];rfl)|exact d22|(rw [d22];rfl)) ?_|refine zk (by first|exact d1|(rw [d1];rfl)|exact d21|(rw [d21];rfl)|exact d22|(rw [d22];rfl)) ?_)
       conv=>whnf
       exact zd [] h
      ·have hv:hA x false= -1:=by unfold hA;rw [if_pos h1,if_neg (show ¬(false=true∧hK x=23) from fun h=>Bool.noConfusion h.1),if_neg h2,if_neg (fun h=>Bool.noConfusion h.1)]
       have h:=ht (decide_eq_true hv)
       repeat ((conv=>whnf);first|refine zq ?_|refine zg ?_|refine zf ?_|refine zb ?_|refine zr (by first|exact d1|(rw [d1];rfl)|exact d21|(rw [d21];rfl)|exact d22|(rw [d22];rfl)) ?_|refine zj (by first|exact d1|(rw [d1];rfl)|exact d21|(rw [d21];rfl)|exact d22|(rw [d22];rfl)) ?_|refine zk (by first|exact d1|(rw [d1];rfl)|exact d21|(rw [d21];rfl)|exact d22|(rw [d22];rfl)) ?_)
       conv=>whnf
       exact zd [] h
    ·have d1:decide (yf ((x.getD (Int.toNat 0) 0).toNat:Int))=false:=decide_eq_false h1
     have hv:hA x keyed=10:=by unfold hA;rw [if_neg h1]
     have hz:=hf (decide_eq_false (by rw [hv];decide))
     rw [hv] at hz
     have h1':=h1
     unfold yf at h1'
     clear hv ht hf
     cases keyed
     ·repeat ((conv=>whnf);first|refine zq ?_|refine zg ?_|refine zf ?_|refine zb ?_|refine zr (by first|exact d1|(rw [d1];rfl)) ?_|refine zj (by first|exact d1|(rw [d1];rfl)) ?_|refine zk (by first|exact d1|(rw [d1];rfl)) ?_)
      conv=>whnf
      exact zd [] hz
     ·repeat ((conv=>whnf);first|refine zq ?_|refine zg ?_|refine zf ?_|refine zb ?_|refine zr (by first|exact d1|(rw [d1];rfl)) ?_|refine zj (by first|exact d1|(rw [d1];rfl)) ?_|refine zk (by first|exact d1|(rw [d1];rfl)) ?_)
      conv=>whnf
      exact zd [] hz
   ·exact h.elim
def clS:Spec:=fun args hp K=>match args,hp with
  | [.int i,.ptr 0 0 0 []],[.mk t [.str p]]=>Pre (0≤i∧i<(p.length:Int)) (K (.u8 (p.getD i.toNat 0)) [.mk t [.str p]])
  |_,_=>False
theorem yjs:zp prog 97 clS:=by
  refine zm y6 zi rfl func97 rfl call97 (D:=yjl) ?_ ?_
  ·intro args hp K h
   unfold clS at h
   split at h
   ·exact Nat.le_of_ble_eq_true rfl
   ·exact h.elim
  ·intro args hp K h
   unfold clS at h
   split at h
   ·rename_i i t p
    obtain ⟨⟨h0,h1⟩,h⟩:=zn h
    refine za ?_
    exact zd [0] h
   ·exact h.elim
def lnz (p:List UInt8):Nat→Nat
  |0=>0
  |n+1=>if p.getD n 0=0 then lnz p n else n+1
theorem zza (p:List UInt8): ∀n,lnz p n≤n
  |0=>Nat.le_refl _
  |n+1=>by
   simp only [lnz]
   split
   ·exact Nat.le_succ_of_le (zza p n)
   ·exact Nat.le_refl _
def iK (p:List UInt8):Int:=((p.getD (lnz p p.length-1) 0).toNat:Int)
def iA (p:List UInt8):Int:=if 16385<p.length then 22 else if lnz p p.length=0 then 10 else if iK p=21∨iK p=22∨iK p=23 then-1 else 10
structure Zs (p:List UInt8) where
  k:Nat
  hk:k≤p.length
  hz:lnz p p.length=lnz p k
def zzu:Spec:=fun args hp K=>match args,hp with
  | [.func 97 [.ptr 0 0 0 []],.int n],[.mk t [.str p]]=>Pre (n=(p.length:Int)∧p.length≤1000000)
      (zx (decide (iA p= -1)) (K (.tup [.int (iK p),.int ((lnz p p.length-1:Nat):Int),.int (-1)]) [.mk t [.str p]]) (K (.tup [.int 0,.int 0,.int (iA p)]) [.mk t [.str p]]))
  |_,_=>False
theorem yag:zp prog 96 zzu:=by
  refine zm y6 (zc yjs zi) rfl func96 rfl call96 (D:=yk7) ?_ ?_
  ·intro args hp K h
   unfold zzu at h
   split at h
   ·exact Nat.le_of_ble_eq_true rfl
   ·exact h.elim
  ·intro args hp K h
   unfold zzu at h
   split at h
   ·rename_i n t p
    obtain ⟨⟨hn,hl⟩,h⟩:=zn h
    obtain ⟨ht,hf⟩:=zw h
    by_cases h1:16385<p.length
    ·have hv:iA p=22:=by unfold iA;rw [if_pos h1]
     have h:=hf (decide_eq_false (by rw [hv];decide))
     rw [hv] at h
     refine za ?_
     exact zd [0] h
    ·refine za ?_
     refine zt (Zs p) (fun z=>⟨[(0,.func 97 [.ptr 0 0 0 []]),(1,.int (z.k:Nat))],[.mk t [.str p]]⟩) (fun z=>z.k) ⟨p.length,Nat.le_refl _,rfl⟩ [0] ?_ ?_
     ·repeat ((conv=>whnf);refine zb ?_)
      conv=>whnf
      exact zl (congrArg SV.int hn)
     ·intro z
      have hzk:=z.hk
      have hzz:=z.hz
      by_cases h0:0<z.k
      ·have hpi:0≤((z.k:Nat):Int)-1∧((z.k:Nat):Int)-1<(p.length:Int):=⟨by omega,by omega⟩
       have hix:(((z.k:Nat):Int)-1).toNat=z.k-1:=by omega
       obtain ⟨j,hj⟩: ∃j,z.k=j+1:=⟨z.k-1,by omega⟩
       by_cases hb:p.getD (z.k-1) 0=0
       ·have hd:decide (p.getD (((z.k:Nat):Int)-1).toNat 0=UInt8.ofNat 0)=true:=decide_eq_true (by rw [hix];exact hb)
        have hnx:lnz p p.length=lnz p (z.k-1):=by
          rw [hzz,hj];rw [hj,Nat.add_sub_cancel] at hb;simp only [lnz];rw [if_pos hb];rfl
        repeat ((conv=>whnf);first|refine zq ?_|refine zg ?_|refine zf ?_|refine zb ?_|refine zr (by first|exact hd|(rw [hd];rfl)) ?_|refine zj (by first|exact hd|(rw [hd];rfl)) ?_|refine zk (by first|exact hd|(rw [hd];rfl)) ?_)
        conv=>whnf
        refine ⟨⟨z.k-1,by omega,hnx⟩,[0],by show z.k-1<z.k;omega,?_⟩
        repeat ((conv=>whnf);refine zb ?_)
        conv=>whnf
        exact zl (congrArg SV.int (show ((z.k:Nat):Int)-1=((z.k-1:Nat):Int) by omega))
       ·have hd:decide (p.getD (((z.k:Nat):Int)-1).toNat 0=UInt8.ofNat 0)=false:=decide_eq_false (by rw [hix];exact hb)
        have hlz:lnz p p.length=z.k:=by
          rw [hzz,hj];rw [hj,Nat.add_sub_cancel] at hb;simp only [lnz];rw [if_neg hb]
        have hik:iK p=((p.getD (((z.k:Nat):Int)-1).toNat 0).toNat:Int):=by unfold iK;rw [hlz,hix]
        have hkm:((lnz p p.length-1:Nat):Int)=((z.k:Nat):Int)-1:=by rw [hlz];omega
        by_cases hg:iK p=21∨iK p=22∨iK p=23
        ·have hv:iA p= -1:=by unfold iA;rw [if_neg h1,if_neg (by omega),if_pos hg]
         have h:=ht (decide_eq_true hv)
         rw [hkm,hik] at h
         rcases hg with hg|hg|hg
         ·repeat ((conv=>whnf);first|refine zq ?_|refine zg ?_|refine zf ?_|refine zb ?_|refine zr (by first|exact hd|(rw [hd];rfl)) ?_|refine zj (by first|exact hd|(rw [hd];rfl)) ?_|refine zk (by first|exact hd|(rw [hd];rfl)) ?_)
          conv=>whnf
          exact zd [0] h
         ·repeat ((conv=>whnf);first|refine zq ?_|refine zg ?_|refine zf ?_|refine zb ?_|refine zr (by first|exact hd|(rw [hd];rfl)) ?_|refine zj (by first|exact hd|(rw [hd];rfl)) ?_|refine zk (by first|exact hd|(rw [hd];rfl)) ?_)
          conv=>whnf
          exact zd [0] h
         ·repeat ((conv=>whnf);first|refine zq ?_|refine zg ?_|refine zf ?_|refine zb ?_|refine zr (by first|exact hd|(rw [hd];rfl)) ?_|refine zj (by first|exact hd|(rw [hd];rfl)) ?_|refine zk (by first|exact hd|(rw [hd];rfl)) ?_)
          conv=>whnf
          exact zd [0] h
        ·have hv:iA p=10:=by unfold iA;rw [if_neg h1,if_neg (by omega),if_neg hg]
         have h:=hf (decide_eq_false (by rw [hv];decide))
         rw [hv] at h
         repeat ((conv=>whnf);first|refine zq ?_|refine zg ?_|refine zf ?_|refine zb ?_|refine zr (by first|exact hd|(rw [hd];rfl)) ?_|refine zj (by first|exact hd|(rw [hd];rfl)) ?_|refine zk (by first|exact hd|(rw [hd];rfl)) ?_)
         conv=>whnf
         exact zd [0] h
      ·have hlz:lnz p p.length=0:=by rw [hzz,show z.k=0 by omega];rfl
       have hv:iA p=10:=by unfold iA;rw [if_neg h1,if_pos hlz]
       have h:=hf (decide_eq_false (by rw [hv];decide))
       rw [hv] at h
       refine za ?_
       exact zd [0] h
   ·exact h.elim
end Go.Sym.Z

namespace Go.Sym.Z
open Go Go.Proofs.Tryz Go.Sym.Lp Go.Sym.Cha Go.Sym.Sha Go.Sym.Hk
set_option maxRecDepth 100000
attribute [local irreducible] za2 exF kyF ivF xi zau y0 inL ncF lnz iA
def yks:List (Nat×List PStep):= []
def yej:List (Nat×TyI):= [(3,ty3),(4,ty4),(5,ty5),(9,ty9),(48,zd5),(51,zee),(113,xv),(99,xo),(103,zfk),(68,zll),(70,zld),(104,ze4),(74,zl6),(23,zl8),(43,zjw),(143,zha)]
theorem z2f: ∀t i,xa yej t=some i→yx prog t i:=(ze zcs (ze zc1 (ze zct (ze zcw (ze zbj (ze zbi (ze zbg (ze zca (ze zol (ze zsw (ze zus (ze zo2 (ze zst (ze ztb (ze zm9 (ze z9d zat))))))))))))))))
def zzh:Spec:=fun args hp K=>match args,hp with
  | [.ptr 0 0 0 [],.str h,.int kind,.str s],[.mk t0 [.int p,.nilptr,.nilptr,.str held,.int f]]=>K (.tup [.agg [.int kind,.str s],.int (-1)]) [.mk t0 [.int p,.nilptr,.nilptr,.str held,.int f]]
  | [.ptr 0 0 0 [],.str h,.int kind,.str s],[.mk t0 [.int p,.ptr 1 0 0 [],.nilptr,.str held,.int f],.mk tka [.int aw,.str akey,.str aiv,.int am]]=>K (.tup [.agg [.int kind,.str s],.int (-1)]) [.mk t0 [.int p,.ptr 1 0 0 [],.nilptr,.str held,.int f],.mk tka [.int aw,.str akey,.str aiv,.int am]]
  | [.ptr 0 0 0 [],.str h,.int kind,.str s],[.mk t0 [.int p,.nilptr,.ptr 1 0 0 [],.str held,.int f],.mk tkb [.int bw,.str bkey,.str biv,.int bm]]=>Pre (za3 bw bkey biv bm∧h.length≤100∧s.length≤20000) (zx (decide (kind=20)) (K (.tup [.agg [.int kind,.str s],.int (-1)]) [.mk t0 [.int p,.nilptr,.ptr 1 0 0 [],.str held,.int f],.mk tkb [.int bw,.str bkey,.str biv,.int bm]]) (zx (decide (16≤s.length∧zau bw bkey (ncF biv bm) h (s.take (s.length-16))=s.drop (s.length-16))) (zx (decide (iA (y0 bw bkey (ncF biv bm) (s.take (s.length-16)))= -1)) (K (.tup [.agg [.int (iK (y0 bw bkey (ncF biv bm) (s.take (s.length-16)))),.str (((y0 bw bkey (ncF biv bm) (s.take (s.length-16)))).take (lnz (y0 bw bkey (ncF biv bm) (s.take (s.length-16))) (y0 bw bkey (ncF biv bm) (s.take (s.length-16))).length-1))],.int (-1)]) [.mk t0 [.int p,.nilptr,.ptr 1 0 0 [],.str held,.int f],.mk tkb [.int bw,.str bkey,.str biv,.int (bm+1)]]) (K (.tup [.agg [.int 0,.str []],.int (iA (y0 bw bkey (ncF biv bm) (s.take (s.length-16))))]) [.mk t0 [.int p,.nilptr,.ptr 1 0 0 [],.str held,.int f],.mk tkb [.int bw,.str bkey,.str biv,.int (bm+1)]])) (K (.tup [.agg [.int 0,.str []],.int 20]) [.mk t0 [.int p,.nilptr,.ptr 1 0 0 [],.str held,.int f],.mk tkb [.int bw,.str bkey,.str biv,.int bm]])))
  | [.ptr 0 0 0 [],.str h,.int kind,.str s],[.mk t0 [.int p,.ptr 1 0 0 [],.ptr 2 0 0 [],.str held,.int f],.mk tka [.int aw,.str akey,.str aiv,.int am],.mk tkb [.int bw,.str bkey,.str biv,.int bm]]=>Pre (za3 bw bkey biv bm∧h.length≤100∧s.length≤20000) (zx (decide (kind=20)) (K (.tup [.agg [.int kind,.str s],.int (-1)]) [.mk t0 [.int p,.ptr 1 0 0 [],.ptr 2 0 0 [],.str held,.int f],.mk tka [.int aw,.str akey,.str aiv,.int am],.mk tkb [.int bw,.str bkey,.str biv,.int bm]]) (zx (decide (16≤s.length∧zau bw bkey (ncF biv bm) h (s.take (s.length-16))=s.drop (s.length-16))) (zx (decide (iA (y0 bw bkey (ncF biv bm) (s.take (s.length-16)))= -1)) (K (.tup [.agg [.int (iK (y0 bw bkey (ncF biv bm) (s.take (s.length-16)))),.str (((y0 bw bkey (ncF biv bm) (s.take (s.length-16)))).take (lnz (y0 bw bkey (ncF biv bm) (s.take (s.length-16))) (y0 bw bkey (ncF biv bm) (s.take (s.length-16))).length-1))],.int (-1)]) [.mk t0 [.int p,.ptr 1 0 0 [],.ptr 2 0 0 [],.str held,.int f],.mk tka [.int aw,.str akey,.str aiv,.int am],.mk tkb [.int bw,.str bkey,.str biv,.int (bm+1)]]) (K (.tup [.agg [.int 0,.str []],.int (iA (y0 bw bkey (ncF biv bm) (s.take (s.length-16))))]) [.mk t0 [.int p,.ptr 1 0 0 [],.ptr 2 0 0 [],.str held,.int f],.mk tka [.int aw,.str akey,.str aiv,.int am],.mk tkb [.int bw,.str bkey,.str biv,.int (bm+1)]])) (K (.tup [.agg [.int 0,.str []],.int 20]) [.mk t0 [.int p,.ptr 1 0 0 [],.ptr 2 0 0 [],.str held,.int f],.mk tka [.int aw,.str akey,.str aiv,.int am],.mk tkb [.int bw,.str bkey,.str biv,.int bm]])))
  |_,_=>False
set_option maxHeartbeats 4000000 in
theorem z93:zp prog 70 zzh:=by
  refine zm z2f (zc z9t (zc yag zi)) rfl func70 rfl call70 (D:=yks) ?_ ?_
  ·intro args hp K h
   unfold zzh at h
   split at h
   ·exact Nat.le_of_ble_eq_true rfl
   ·exact Nat.le_of_ble_eq_true rfl
   ·exact Nat.le_of_ble_eq_true rfl
   ·exact Nat.le_of_ble_eq_true rfl
   ·exact h.elim
  ·intro args hp K h
   unfold zzh at h
   split at h
   ·rename_i h' kind s t0 p held f
    refine za ?_
    exact zd [0] h
   ·rename_i h' kind s t0 p held f tka aw akey aiv am
    refine za ?_
    exact zd [0,1] h
   ·rename_i h' kind s t0 p held f tkb bw bkey biv bm
    obtain ⟨hpre,h⟩:=zn h
    obtain ⟨ht,hf⟩:=zw h
    by_cases hk:kind=20
    ·have h:=ht (decide_eq_true hk)
     refine za ?_
     exact zd [0,1] h
    ·have h:=hf (decide_eq_false hk)
     obtain ⟨ht,hf⟩:=zw h
     generalize e:decide (16≤s.length∧zau bw bkey (ncF biv bm) h' (s.take (s.length-16))=s.drop (s.length-16))=c at ht hf
     cases c
     ·have h:=hf rfl
      repeat ((conv=>whnf);first|refine zq ?_|refine zg ?_|refine zf ?_|refine zb ?_|refine zr (by first|exact e) ?_|refine zj (by first|exact e) ?_|refine zk (by first|exact e) ?_)
      conv=>whnf
      exact zd [0,1] h
     ·have h:=ht rfl
      obtain ⟨ht,hf⟩:=zw h
      have hpl:(y0 bw bkey (ncF biv bm) (s.take (s.length-16))).length≤20000:=by rw [xu,List.length_take];omega
      have hll:=zza (y0 bw bkey (ncF biv bm) (s.take (s.length-16))) (y0 bw bkey (ncF biv bm) (s.take (s.length-16))).length
      have hpi:((y0 bw bkey (ncF biv bm) (s.take (s.length-16))).length:Int)=((y0 bw bkey (ncF biv bm) (s.take (s.length-16))).length:Int)∧(y0 bw bkey (ncF biv bm) (s.take (s.length-16))).length≤1000000:=⟨rfl,by omega⟩
      generalize e2:decide (iA (y0 bw bkey (ncF biv bm) (s.take (s.length-16)))= -1)=c2 at ht hf
      cases c2
      ·have h:=hf rfl
       repeat ((conv=>whnf);first|refine zq ?_|refine zg ?_|refine zf ?_|refine zb ?_|refine zr (by first|exact e|exact e2) ?_|refine zj (by first|exact e|exact e2) ?_|refine zk (by first|exact e|exact e2) ?_)
       conv=>whnf
       exact zd [0,1] h
      ·have h:=ht rfl
       repeat ((conv=>whnf);first|refine zq ?_|refine zg ?_|refine zf ?_|refine zb ?_|refine zr (by first|exact e|exact e2) ?_|refine zj (by first|exact e|exact e2) ?_|refine zk (by first|exact e|exact e2) ?_)
       conv=>whnf
       exact zd [0,1] h
   ·rename_i h' kind s t0 p held f tka aw akey aiv am tkb bw bkey biv bm
    obtain ⟨hpre,h⟩:=zn h
    obtain ⟨ht,hf⟩:=zw h
    by_cases hk:kind=20
    ·have h:=ht (decide_eq_true hk)
     refine za ?_
     exact zd [0,1,2] h
    ·have h:=hf (decide_eq_false hk)
     obtain ⟨ht,hf⟩:=zw h
     generalize e:decide (16≤s.length∧zau bw bkey (ncF biv bm) h' (s.take (s.length-16))=s.drop (s.length-16))=c at ht hf
     cases c
     ·have h:=hf rfl
      repeat ((conv=>whnf);first|refine zq ?_|refine zg ?_|refine zf ?_|refine zb ?_|refine zr (by first|exact e) ?_|refine zj (by first|exact e) ?_|refine zk (by first|exact e) ?_)
      conv=>whnf
      exact zd [0,1,2] h
     ·have h:=ht rfl
      obtain ⟨ht,hf⟩:=zw h
      have hpl:(y0 bw bkey (ncF biv bm) (s.take (s.length-16))).length≤20000:=by rw [xu,List.length_take];omega
      have hll:=zza (y0 bw bkey (ncF biv bm) (s.take (s.length-16))) (y0 bw bkey (ncF biv bm) (s.take (s.length-16))).length
      have hpi:((y0 bw bkey (ncF biv bm) (s.take (s.length-16))).length:Int)=((y0 bw bkey (ncF biv bm) (s.take (s.length-16))).length:Int)∧(y0 bw bkey (ncF biv bm) (s.take (s.length-16))).length≤1000000:=⟨rfl,by omega⟩
      generalize e2:decide (iA (y0 bw bkey (ncF biv bm) (s.take (s.length-16)))= -1)=c2 at ht hf
      cases c2
      ·have h:=hf rfl
       repeat ((conv=>whnf);first|refine zq ?_|refine zg ?_|refine zf ?_|refine zb ?_|refine zr (by first|exact e|exact e2) ?_|refine zj (by first|exact e|exact e2) ?_|refine zk (by first|exact e|exact e2) ?_)
       conv=>whnf
       exact zd [0,1,2] h
      ·have h:=ht rfl
       repeat ((conv=>whnf);first|refine zq ?_|refine zg ?_|refine zf ?_|refine zb ?_|refine zr (by first|exact e|exact e2) ?_|refine zj (by first|exact e|exact e2) ?_|refine zk (by first|exact e|exact e2) ?_)
       conv=>whnf
       exact zd [0,1,2] h
   ·exact h.elim
end Go.Sym.Z
