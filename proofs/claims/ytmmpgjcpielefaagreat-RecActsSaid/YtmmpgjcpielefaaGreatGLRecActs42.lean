/-
  Contracts of functions of the program, each said of symbolic values, and plain laws; no condition beyond each statement's own.
-/
import Derived.Test.YtmmpgjcpielefaaGreatGLRecActs41
set_option linter.unusedSimpArgs false
set_option linter.unusedVariables false
namespace Go.Sym.Z
open Go Go.Proofs.Tryz Go.Sym.Lp Go.Sym.Cha Go.Sym.Sha Go.Sym.Hk Go.Sym.Gcm
set_option maxRecDepth 100000
def ykg:List (Nat×List PStep):= [(1,[⟨0,[]⟩,⟨1,[]⟩,⟨2,[]⟩,⟨3,[]⟩,⟨4,[]⟩,⟨5,[0,1,2,3,4]⟩,⟨6,[0,1,2,3,4]⟩,⟨7,[0,1,2,3,4]⟩,⟨8,[0,1,2,3,4]⟩,⟨9,[0,1,2,3,4]⟩,⟨10,[0,1,2,3,4,5,6,7,8,9]⟩,⟨11,[0,1,2,3,4,5,6,7,8,9]⟩,⟨12,[0,1,2,3,4,5,6,7,8,9]⟩,⟨13,[0,1,2,3,4,5,6,7,8,9]⟩,⟨15,[0,1,2,3,4,5,6,7,8,9,10,11,12,13]⟩,⟨16,[0,1,2,3,4,5,6,7,8,9,10,11,12,13,15]⟩,⟨14,[0,1,2,3,4,5,6,7,8,9,15,16]⟩,⟨17,[]⟩,⟨18,[]⟩,⟨19,[]⟩,⟨20,[19]⟩,⟨21,[20]⟩,⟨22,[]⟩]),(12,[⟨0,[]⟩,⟨1,[0]⟩,⟨2,[0]⟩,⟨3,[]⟩,⟨4,[]⟩,⟨5,[0,1,2,3,4]⟩,⟨6,[0,1,2,3,4,5]⟩,⟨7,[0,1,2,3,4,5]⟩,⟨8,[0,1,2,3,4]⟩,⟨9,[]⟩,⟨10,[]⟩,⟨11,[]⟩])]
attribute [local irreducible] za2 exF kyF ivF xi zau y0 inL ncF iA hA hN hK hdF yq zao
def zzg:Spec:=fun args hp K=>match args,hp with
  | [.ptr 0 0 0 [],.str h,.str s],[.mk t0 [.int p,.int rg,.int rs,.str rk,.str ri,.int rc,.bool ro,.int ws,.str wk,.str wi,.int wc,.bool wo,.str held,.int f]]=>Pre (za3 rs rk ri rc∧h.length≤100∧s.length≤20000) (zx (decide (16≤s.length∧zau rs rk (ncF ri rc) h (s.take (s.length-16))=s.drop (s.length-16))) (zx (decide (iA (y0 rs rk (ncF ri rc) (s.take (s.length-16)))= -1)) (K (.tup [.agg [.int (iK (y0 rs rk (ncF ri rc) (s.take (s.length-16)))),.str ((y0 rs rk (ncF ri rc) (s.take (s.length-16))).take (lnz (y0 rs rk (ncF ri rc) (s.take (s.length-16))) (y0 rs rk (ncF ri rc) (s.take (s.length-16))).length-1))],.int (-1)]) [.mk t0 [.int p,.int rg,.int rs,.str rk,.str ri,.int (rc+1),.bool ro,.int ws,.str wk,.str wi,.int wc,.bool wo,.str held,.int f]]) (K (.tup [.agg [.int 0,.str []],.int (iA (y0 rs rk (ncF ri rc) (s.take (s.length-16))))]) [.mk t0 [.int p,.int rg,.int rs,.str rk,.str ri,.int rc,.bool ro,.int ws,.str wk,.str wi,.int wc,.bool wo,.str held,.int f]])) (K (.tup [.agg [.int 0,.str []],.int 20]) [.mk t0 [.int p,.int rg,.int rs,.str rk,.str ri,.int rc,.bool ro,.int ws,.str wk,.str wi,.int wc,.bool wo,.str held,.int f]]))
  |_,_=>False
set_option maxHeartbeats 8000000 in
theorem ybm:zp prog 51 zzg:=by
  refine zm zbz (zc zv2 (zc z9b zi)) rfl func51 rfl call51 (D:=ykg) ?_ ?_
  ·intro args hp K h
   unfold zzg at h
   split at h
   ·exact Nat.le_of_ble_eq_true rfl
   ·exact h.elim
  ·intro args hp K h
   unfold zzg at h
   split at h
   ·rename_i h' s t0 p rg rs rk ri rc ro ws wk wi wc wo held f
    obtain ⟨⟨hok,hh,hs⟩,h⟩:=zn h
    obtain ⟨ht,hf⟩:=zw h
    have hky:=zgu hok
    obtain ⟨hw,hkl,hiv,hm0,hm1⟩:=hok
    have hnl:=zk3 ri rc
    have hpn:ri.length=12∧0≤rc∧rc<9223372036854775808:=⟨hiv,hm0,by omega⟩
    have hd:zd9 rs rk.length∧(ncF ri rc).length=12∧h'.length≤65536∧(s.length:Int)-16≤65536:=⟨hky,by omega,by omega,by omega⟩
    by_cases hop:16≤s.length∧zau rs rk (ncF ri rc) h' (s.take (s.length-16))=s.drop (s.length-16)
    ·have h:=ht (decide_eq_true hop)
     obtain ⟨p',hp'⟩: ∃p',p'=(y0 rs rk (ncF ri rc) (s.take (s.length-16))):=⟨_,rfl⟩
     have hpl:p'.length≤20000:=by rw [hp',xu,List.length_take];omega
     rw [←hp'] at h
     obtain ⟨ht,hf⟩:=zw h
     repeat ((conv=>whnf);first|refine zq ?_|refine zg ?_|refine zf ?_|refine zb ?_|refine zr (by first|exact decide_eq_true hd|exact decide_eq_true hop) ?_|refine zj (by first|exact decide_eq_true hd|exact decide_eq_true hop) ?_|refine zk (by first|exact decide_eq_true hd|exact decide_eq_true hop) ?_)
     conv=>whnf
     rw [←hp']
     by_cases h1:16385<p'.length
     ·have hv:iA p'=22:=by unfold iA;rw [if_pos h1]
      have h:=hf (decide_eq_false (by rw [hv];decide))
      rw [hv] at h
      refine za ?_
      exact zd [0] h
     ·refine za ?_
      refine zt (Zs p') (fun z=>⟨[(0,.ptr 0 0 0 []),(6,.ptr 1 0 0 []),(8,.str p'),(10,.int (z.k:Nat))],[.mk t0 [.int p,.int rg,.int rs,.str rk,.str ri,.int rc,.bool ro,.int ws,.str wk,.str wi,.int wc,.bool wo,.str held,.int f],.mk 43 [.int 0,.str []]]⟩) (fun z=>z.k) ⟨p'.length,Nat.le_refl _,rfl⟩ [0,1] ?_ ?_
      ·exact zo
      ·intro z
       have hzk:=z.hk
       have hzz:=z.hz
       by_cases h0:0<z.k
       ·have hix:(((z.k:Nat):Int)-1).toNat=z.k-1:=by omega
        obtain ⟨j,hj⟩: ∃j,z.k=j+1:=⟨z.k-1,by omega⟩
        by_cases hb:p'.getD (z.k-1) 0=0
        ·have hd2:decide (p'.getD (((z.k:Nat):Int)-1).toNat 0=UInt8.ofNat 0)=true:=decide_eq_true (by rw [hix];exact hb)
         have hnx:lnz p' p'.length=lnz p' (z.k-1):=by
           rw [hzz,hj];rw [hj,Nat.add_sub_cancel] at hb;simp only [lnz];rw [if_pos hb];rfl
         repeat ((conv=>whnf);first|refine zq ?_|refine zg ?_|refine zf ?_|refine zb ?_|refine zr (by first|exact hd2|(rw [hd2];rfl)) ?_|refine zj (by first|exact hd2|(rw [hd2];rfl)) ?_|refine zk (by first|exact hd2|(rw [hd2];rfl)) ?_)
         conv=>whnf
         refine ⟨⟨z.k-1,by omega,hnx⟩,[0,1],by show z.k-1<z.k;omega,?_⟩
         repeat ((conv=>whnf);refine zb ?_)
         conv=>whnf
         exact zl (congrArg SV.int (show ((z.k:Nat):Int)-1=((z.k-1:Nat):Int) by omega))
        ·have hd2:decide (p'.getD (((z.k:Nat):Int)-1).toNat 0=UInt8.ofNat 0)=false:=decide_eq_false (by rw [hix];exact hb)
         have hlz:lnz p' p'.length=z.k:=by
           rw [hzz,hj];rw [hj,Nat.add_sub_cancel] at hb;simp only [lnz];rw [if_neg hb]
         have hik:iK p'=((p'.getD (((z.k:Nat):Int)-1).toNat 0).toNat:Int):=by unfold iK;rw [hlz,hix]
         have hkm:lnz p' p'.length-1=(((z.k:Nat):Int)-1).toNat:=by rw [hlz];omega
         have b0:=(p'.getD (((z.k:Nat):Int)-1).toNat 0).toNat_lt
         by_cases hg:iK p'=21∨iK p'=22∨iK p'=23
         ·have hv:iA p'= -1:=by unfold iA;rw [if_neg h1,if_neg (by omega),if_pos hg]
          have h:=ht (decide_eq_true hv)
          rw [hkm,hik] at h
          rw [hik] at hg
          have dz:decide (((z.k:Nat):Int)=0)=false:=decide_eq_false (by omega)
          have dl:decide (((p'.getD (((z.k:Nat):Int)-1).toNat 0).toNat:Int)<21)=false:=decide_eq_false (by omega)
          have dg:decide (((p'.getD (((z.k:Nat):Int)-1).toNat 0).toNat:Int)>23)=false:=decide_eq_false (by omega)
          repeat ((conv=>whnf);first|refine zq ?_|refine zg ?_|refine zf ?_|refine zb ?_|refine zr (by first|exact hd2|(rw [hd2];rfl)|exact dl|(rw [dl];rfl)|exact dg|(rw [dg];rfl)|(rw [dz];rfl)) ?_|refine zj (by first|exact hd2|(rw [hd2];rfl)|exact dl|(rw [dl];rfl)|exact dg|(rw [dg];rfl)|(rw [dz];rfl)) ?_|refine zk (by first|exact hd2|(rw [hd2];rfl)|exact dl|(rw [dl];rfl)|exact dg|(rw [dg];rfl)|(rw [dz];rfl)) ?_)
          conv=>whnf
          exact zd [0] h
         ·have hv:iA p'=10:=by unfold iA;rw [if_neg h1,if_neg (by omega),if_neg hg]
          have h:=hf (decide_eq_false (by rw [hv];decide))
          rw [hv] at h
          rw [hik] at hg
          have dz:decide (((z.k:Nat):Int)=0)=false:=decide_eq_false (by omega)
          by_cases hlo:((p'.getD (((z.k:Nat):Int)-1).toNat 0).toNat:Int)<21
          ·have dl:decide (((p'.getD (((z.k:Nat):Int)-1).toNat 0).toNat:Int)<21)=true:=decide_eq_true (by omega)
           repeat ((conv=>whnf);first|refine zq ?_|refine zg ?_|refine zf ?_|refine zb ?_|refine zr (by first|exact hd2|(rw [hd2];rfl)|exact dl|(rw [dl];rfl)|(rw [dz];rfl)) ?_|refine zj (by first|exact hd2|(rw [hd2];rfl)|exact dl|(rw [dl];rfl)|(rw [dz];rfl)) ?_|refine zk (by first|exact hd2|(rw [hd2];rfl)|exact dl|(rw [dl];rfl)|(rw [dz];rfl)) ?_)
           conv=>whnf
           exact zd [0] h
          ·have dl:decide (((p'.getD (((z.k:Nat):Int)-1).toNat 0).toNat:Int)<21)=false:=decide_eq_false (by omega)
           have dg:decide (((p'.getD (((z.k:Nat):Int)-1).toNat 0).toNat:Int)>23)=true:=decide_eq_true (by omega)
           repeat ((conv=>whnf);first|refine zq ?_|refine zg ?_|refine zf ?_|refine zb ?_|refine zr (by first|exact hd2|(rw [hd2];rfl)|exact dl|(rw [dl];rfl)|exact dg|(rw [dg];rfl)|(rw [dz];rfl)) ?_|refine zj (by first|exact hd2|(rw [hd2];rfl)|exact dl|(rw [dl];rfl)|exact dg|(rw [dg];rfl)|(rw [dz];rfl)) ?_|refine zk (by first|exact hd2|(rw [hd2];rfl)|exact dl|(rw [dl];rfl)|exact dg|(rw [dg];rfl)|(rw [dz];rfl)) ?_)
           conv=>whnf
           exact zd [0] h
       ·have hlz:lnz p' p'.length=0:=by rw [hzz,show z.k=0 by omega];rfl
        have hv:iA p'=10:=by unfold iA;rw [if_neg h1,if_pos hlz]
        have h:=hf (decide_eq_false (by rw [hv];decide))
        rw [hv] at h
        have dz:decide (((z.k:Nat):Int)=0)=true:=decide_eq_true (by omega)
        repeat ((conv=>whnf);first|refine zq ?_|refine zg ?_|refine zf ?_|refine zb ?_|refine zr (by first|(rw [dz];rfl)) ?_|refine zj (by first|(rw [dz];rfl)) ?_|refine zk (by first|(rw [dz];rfl)) ?_)
        conv=>whnf
        exact zd [0] h
    ·have h:=hf (decide_eq_false hop)
     repeat ((conv=>whnf);first|refine zq ?_|refine zg ?_|refine zf ?_|refine zb ?_|refine zr (by first|exact decide_eq_true hd|exact decide_eq_false hop) ?_|refine zj (by first|exact decide_eq_true hd|exact decide_eq_false hop) ?_|refine zk (by first|exact decide_eq_true hd|exact decide_eq_false hop) ?_)
     conv=>whnf
     exact zd [0] h
   ·exact h.elim
end Go.Sym.Z

namespace Go.Sym.Z
open Go Go.Proofs.Tryz Go.Sym.Lp Go.Sym.Cha Go.Sym.Sha Go.Sym.Hk Go.Sym.Gcm
set_option maxRecDepth 100000
def yll:List (Nat×List PStep):= [(2,[⟨0,[]⟩,⟨1,[0]⟩,⟨2,[0]⟩,⟨3,[0]⟩,⟨4,[0]⟩,⟨5,[1,2,3,4]⟩,⟨6,[1,2,3,4]⟩,⟨7,[]⟩]),(5,[⟨0,[]⟩,⟨1,[0]⟩,⟨2,[0]⟩,⟨3,[0]⟩,⟨4,[0]⟩,⟨5,[1,2,3,4]⟩,⟨6,[1,2,3,4]⟩,⟨7,[]⟩]),(9,[⟨0,[]⟩,⟨1,[]⟩,⟨2,[]⟩,⟨3,[]⟩,⟨4,[]⟩,⟨5,[0,1,2,3,4]⟩,⟨6,[0,1,2,3,4]⟩,⟨7,[0,1,2,3,4]⟩,⟨8,[0,1,2,3,4]⟩,⟨9,[0,1,2,3,4,5,6,7,8]⟩,⟨10,[0,1,2,3,4,5,6,7,8]⟩,⟨11,[0,1,2,3,4]⟩,⟨12,[5,6,7,8,9,10,11]⟩,⟨13,[]⟩])]
theorem zoh (h:List UInt8) (b:Bool):hA h b= -1∨0≤hA h b:=by
  unfold hA
  repeat' split
  all_goals first|exact .inl rfl|exact .inr (by decide)
theorem zzm (h:List UInt8):iA h= -1∨0≤iA h:=by
  unfold iA
  repeat' split
  all_goals first|exact .inl rfl|exact .inr (by decide)
theorem yik (h:List UInt8):(((h.take (Int.toNat 5)).getD (Int.toNat 0) 0).toNat:Int)=hK h:=by
  unfold hK
  cases h with
  |nil=>rfl
  |cons a t=>rfl
attribute [local irreducible] za2 exF kyF ivF xi zau y0 inL ncF iA hA hN hK hdF yq zao hT hR lnz
def zuj:Spec:=fun args hp K=>match args,hp with
  | [.ptr 0 0 0 []],[.mk t0 [.int p,.int rg,.int rs,.str rk,.str ri,.int rc,.bool ro,.int ws,.str wk,.str wi,.int wc,.bool wo,.str held,.int f]]=>Pre ((ro=true→za3 rs rk ri rc)∧(f= -1∨0≤f)∧held.length<9223372036854775808) (zx (decide (f= -1)) (zx (decide (held.length<5)) (K (.tup [.agg [.int 0,.str []],.bool false,.int (-1)]) [.mk t0 [.int p,.int rg,.int rs,.str rk,.str ri,.int rc,.bool ro,.int ws,.str wk,.str wi,.int wc,.bool wo,.str held,.int (-1)]]) (zx (decide (hA held ro= -1)) (zx (decide ((held.length:Int)<5+hN held)) (K (.tup [.agg [.int 0,.str []],.bool false,.int (-1)]) [.mk t0 [.int p,.int rg,.int rs,.str rk,.str ri,.int rc,.bool ro,.int ws,.str wk,.str wi,.int wc,.bool wo,.str held,.int (-1)]]) (zx (ro&&decide (hK held=23)) (zx (decide (hO rs rk ri rc held)) (zx (decide (iA (hP rs rk ri rc held)= -1)) (K (.tup [.agg [.int (iK (hP rs rk ri rc held)),.str ((hP rs rk ri rc held).take (lnz (hP rs rk ri rc held) (hP rs rk ri rc held).length-1))],.bool true,.int (-1)]) [.mk t0 [.int p,.int rg,.int rs,.str rk,.str ri,.int (rc+1),.bool ro,.int ws,.str wk,.str wi,.int wc,.bool wo,.str (hR held),.int (-1)]]) (K (.tup [.agg [.int 0,.str []],.bool false,.int (iA (hP rs rk ri rc held))]) [.mk t0 [.int p,.int rg,.int rs,.str rk,.str ri,.int rc,.bool ro,.int ws,.str wk,.str wi,.int wc,.bool wo,.str held,.int (iA (hP rs rk ri rc held))]])) (K (.tup [.agg [.int 0,.str []],.bool false,.int 20]) [.mk t0 [.int p,.int rg,.int rs,.str rk,.str ri,.int rc,.bool ro,.int ws,.str wk,.str wi,.int wc,.bool wo,.str held,.int 20]])) (K (.tup [.agg [.int (hK held),.str (hT held)],.bool true,.int (-1)]) [.mk t0 [.int p,.int rg,.int rs,.str rk,.str ri,.int rc,.bool ro,.int ws,.str wk,.str wi,.int wc,.bool wo,.str (hR held),.int (-1)]]))) (K (.tup [.agg [.int 0,.str []],.bool false,.int (hA held ro)]) [.mk t0 [.int p,.int rg,.int rs,.str rk,.str ri,.int rc,.bool ro,.int ws,.str wk,.str wi,.int wc,.bool wo,.str held,.int (hA held ro)]]))) (K (.tup [.agg [.int 0,.str []],.bool false,.int f]) [.mk t0 [.int p,.int rg,.int rs,.str rk,.str ri,.int rc,.bool ro,.int ws,.str wk,.str wi,.int wc,.bool wo,.str held,.int f]]))
  |_,_=>False
set_option maxHeartbeats 16000000 in
theorem yaf:zp prog 23 zuj:=by
  refine zm zbz (zc z9f (zc yca (zc ybm zi))) rfl func23 rfl call23 (D:=yll) ?_ ?_
  ·intro args hp K h
   unfold zuj at h
   split at h
   ·exact Nat.le_of_ble_eq_true rfl
   ·exact h.elim
  ·intro args hp K h
   unfold zuj at h
   split at h
   ·rename_i t0 p rg rs rk ri rc ro ws wk wi wc wo held f
    obtain ⟨⟨hkw,hf0,hl⟩,h⟩:=zn h
    obtain ⟨ht,hf⟩:=zw h
    by_cases hfm:f= -1
    ·have h9:=ht (decide_eq_true hfm)
     clear h ht hf
     subst hfm
     obtain ⟨ht,hf⟩:=zw h9
     by_cases h5:held.length<5
     ·have h:=ht (decide_eq_true h5)
      refine za ?_
      exact zd [0] h
     ·have h:=hf (decide_eq_false h5)
      have hp0:5≤held.length∧held.length<9223372036854775808:=⟨by omega,hl⟩
      have hpn:0≤(3:Int)∧(3:Int)+2≤(held.length:Int)∧held.length<9223372036854775808:=⟨by decide,by omega,hl⟩
      have hnb:=zq9 held
      have hNd:256*((held.getD (Int.toNat 3) 0).toNat:Int)+((held.getD (Int.toNat 3+1) 0).toNat:Int)=hN held:=by unfold hN;rfl
      obtain ⟨ht,hf⟩:=zw h
      by_cases ha:hA held ro= -1
      ·have h:=ht (decide_eq_true ha)
       have hn16:=zvi ha
       obtain ⟨ht,hf⟩:=zw h
       have hge:decide (hA held ro≥0)=false:=decide_eq_false (by omega)
       repeat ((conv=>whnf);first|refine zq ?_|refine zg ?_|refine zf ?_|refine zb ?_|refine zr (by first|(rw [hge];rfl)) ?_|refine zj (by first|(rw [hge];rfl)) ?_|refine zk (by first|(rw [hge];rfl)) ?_)
       conv=>whnf
       rw [hNd,ha]
       by_cases hs:(held.length:Int)<5+hN held
       ·have h:=ht (decide_eq_true hs)
        refine za ?_
        exact zd [0] h
       ·have h:=hf (decide_eq_false hs)
        have hTl:=znu (h:=held) (by omega)
        have hTe:List.take ((5+hN held).toNat-Int.toNat 5) (List.drop (Int.toNat 5) held)=hT held:=zwa _ (by show (5+hN held).toNat-5=_;omega)
        have hRe:List.drop (5+hN held).toNat held=hR held:=by unfold hR;congr 1;omega
        have hKe:=yik held
        have htl:(List.take (Int.toNat 5) held).length=5:=by rw [List.length_take];show min 5 _=_;omega
        obtain ⟨ht,hf⟩:=zw h
        cases ro
        ·have h:=hf rfl
         refine za ?_
         rw [hTe,hKe]
         refine za ?_
         rw [hRe]
         conv=>whnf
         exact zd [0] h
        ·have hok:=hkw rfl
         have hpo:za3 rs rk ri rc∧(List.take (Int.toNat 5) held).length≤100∧(hT held).length≤20000:=⟨hok,by omega,by omega⟩
         by_cases hk:hK held=23
         ·have h:=ht (by rw [decide_eq_true hk];rfl)
          obtain ⟨ht,hf⟩:=zw h
          refine za ?_
          rw [hTe,hKe]
          by_cases hop:hO rs rk ri rc held
          ·have h:=ht (decide_eq_true hop)
           obtain ⟨ht,hf⟩:=zw h
           have hop':16≤(hT held).length∧zau rs rk (ncF ri rc) (List.take (Int.toNat 5) held) ((hT held).take ((hT held).length-16))=(hT held).drop ((hT held).length-16):=hop
           by_cases hia:iA (hP rs rk ri rc held)= -1
           ·have h:=ht (decide_eq_true hia)
            have hia':iA (y0 rs rk (ncF ri rc) ((hT held).take ((hT held).length-16)))= -1:=hia
            repeat ((conv=>whnf);first|refine zq ?_|refine zg ?_|refine zf ?_|refine zb ?_|refine zr (by first|exact decide_eq_true hop'|exact decide_eq_true hia') ?_|refine zj (by first|exact decide_eq_true hop'|exact decide_eq_true hia') ?_|refine zk (by first|exact decide_eq_true hop'|exact decide_eq_true hia') ?_)
            conv=>whnf
            rw [hRe]
            conv=>whnf
            exact zd [0] h
           ·have h:=hf (decide_eq_false hia)
            have hi0:=(zzm (hP rs rk ri rc held)).resolve_left hia
            have hia': ¬iA (y0 rs rk (ncF ri rc) ((hT held).take ((hT held).length-16)))= -1:=hia
            have hi0':decide (iA (y0 rs rk (ncF ri rc) ((hT held).take ((hT held).length-16)))≥0)=true:=decide_eq_true hi0
            repeat ((conv=>whnf);first|refine zq ?_|refine zg ?_|refine zf ?_|refine zb ?_|refine zr (by first|exact decide_eq_true hop'|exact decide_eq_false hia'|(rw [hi0'];rfl)) ?_|refine zj (by first|exact decide_eq_true hop'|exact decide_eq_false hia'|(rw [hi0'];rfl)) ?_|refine zk (by first|exact decide_eq_true hop'|exact decide_eq_false hia'|(rw [hi0'];rfl)) ?_)
            conv=>whnf
            exact zd [0] h
          ·have h:=hf (decide_eq_false hop)
           have hop': ¬(16≤(hT held).length∧zau rs rk (ncF ri rc) (List.take (Int.toNat 5) held) ((hT held).take ((hT held).length-16))=(hT held).drop ((hT held).length-16)):=hop
           repeat ((conv=>whnf);first|refine zq ?_|refine zg ?_|refine zf ?_|refine zb ?_|refine zr (by first|exact decide_eq_false hop') ?_|refine zj (by first|exact decide_eq_false hop') ?_|refine zk (by first|exact decide_eq_false hop') ?_)
           conv=>whnf
           exact zd [0] h
         ·have h:=hf (by rw [decide_eq_false hk];rfl)
          refine za ?_
          rw [hTe,hKe]
          refine za ?_
          rw [hRe]
          conv=>whnf
          exact zd [0] h
      ·have h:=hf (decide_eq_false ha)
       have ha0:=(zoh held ro).resolve_left ha
       have hge:decide (hA held ro≥0)=true:=decide_eq_true ha0
       repeat ((conv=>whnf);first|refine zq ?_|refine zg ?_|refine zf ?_|refine zb ?_|refine zr (by first|(rw [hge];rfl)) ?_|refine zj (by first|(rw [hge];rfl)) ?_|refine zk (by first|(rw [hge];rfl)) ?_)
       conv=>whnf
       exact zd [0] h
    ·have h:=hf (decide_eq_false hfm)
     refine za ?_
     exact zd [0] h
   ·exact h.elim
end Go.Sym.Z
