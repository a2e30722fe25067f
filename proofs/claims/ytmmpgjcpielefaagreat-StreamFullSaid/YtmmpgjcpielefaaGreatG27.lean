/-
  Contracts of functions of the program, each said of symbolic values, and plain laws; no condition beyond each statement's own.
-/
import Derived.Test.YtmmpgjcpielefaaGreatG26
import Derived.Test.YtmmpgjcpielefaaGreatG21
import Derived.Test.YtmmpgjcpielefaaGreatG20
import Derived.Test.YtmmpgjcpielefaaGreatG25
set_option linter.unusedSimpArgs false
set_option linter.unusedVariables false
namespace Go.Sym.Z
open Go Go.Proofs.Tryz Go.Sym.Lp Go.Sym.Pol Go.Sym.Cha
set_option maxRecDepth 100000
attribute [local irreducible] zd3 blk zh5 rOf zdh zih xl
def z79:List (Nat×List PStep):= [(6,[⟨0,[]⟩,⟨1,[0]⟩,⟨2,[0,1]⟩,⟨3,[0,1]⟩,⟨4,[0,1,2,3]⟩,⟨5,[0,1,2,3]⟩,⟨6,[0,1,2,3]⟩,⟨7,[0,1]⟩,⟨8,[0]⟩,⟨9,[0]⟩,⟨10,[0,1,2,3,4,5,6,7,8,9]⟩,⟨11,[0,1,2,3,4,5,6,7,8,9]⟩,⟨14,[0,1,2,3,4,5,6,7,8,9,10,11]⟩,⟨15,[0,1,2,3,4,5,6,7,8,9,10,11]⟩,⟨18,[0,1,2,3,4,5,6,7,8,9,10,11,14,15]⟩,⟨19,[0,1,2,3,4,5,6,7,8,9,10,11,14,15]⟩,⟨12,[0,1,2,3,4,5,6,7,8,9,14,15,18,19]⟩,⟨13,[0,14,15,18,19]⟩,⟨16,[0,1,2,3,4,5,6,7,8,9,18,19,13]⟩,⟨17,[0,18,19]⟩,⟨20,[0,1,2,3,4,5,6,7,8,9,13,17]⟩,⟨21,[0]⟩,⟨22,[0]⟩,⟨23,[]⟩])]
def yr (key nonce aad b:List UInt8):List UInt8:=
  zh5 (zzv (rOf ((blk key nonce 0).take 32)) aad b) ((blk key nonce 0).take 32)
def zlz:Spec:=fun args hp K=>match args,hp with
  | [.str key,.str nonce,.str aad,.sl 0 0 0 [] n c],[.mk t [.arr8 m l]]=>Pre (key.length=32∧nonce.length=12∧aad.length≤65536∧n≤65536∧n≤l.length∧n≤c)
      (K (.str (yr key nonce aad (l.take n))) [.mk t [.arr8 m l]])
  |_,_=>False
theorem z7q:zp prog 118 zlz:=by
  refine zl zal (ze zsx (ze z0h (ze z6w (ze z7s (ze z2d (ze z5l zg)))))) rfl func118 rfl call118 (D:=z79) ?_ ?_
  ·intro args hp K h
   unfold zlz at h
   split at h
   ·exact Nat.le_of_ble_eq_true rfl
   ·exact h.elim
  ·intro args hp K h
   unfold zlz at h
   split at h
   ·rename_i key nonce aad n c t m l
    obtain ⟨⟨hk,hn,ha,hn2,hl,hc⟩,h⟩:=zi h
    have hkn:key.length=32∧(0≤(0:Int)∧(0:Int)≤4294967295)∧nonce.length=12:=⟨hk,by decide,hn⟩
    have hbl:=zkn key nonce (UInt32.ofInt 0)
    obtain ⟨own,ho⟩: ∃own,own=(blk key nonce (UInt32.ofInt 0)).take (Int.toNat 32):=⟨_,rfl⟩
    have hol:own.length=32:=by rw [ho,List.length_take,hbl];rfl
    have hB:(l.take n).length=n:=by rw [List.length_take];omega
    have hG:yr key nonce aad (l.take n)=zh5 (zzv (rOf own) aad (l.take n)) own:=by rw [ho];unfold yr;rfl
    rw [hG] at h
    have hrl:=z3o own
    have hm:(n:Int).tmod 16=((n%16:Nat):Int):=by rw [Int.tmod_eq_emod_of_nonneg (by omega)];omega
    have hA:((aad.length:Int)).toNat=aad.length:=Int.toNat_natCast _
    have hN:((n:Int)).toNat=n:=Int.toNat_natCast _
    have hfa:=zjy aad.length
    have hfn:=zjy n
    have h8a:=zhp aad.length
    have h8n:=zhp n
    refine za ?_
    rw [←ho,hA]
    clear hbl
    unfold zzv at h
    rw [hB] at h
    obtain ⟨rest,hrest⟩: ∃rest,rest=(l.take n).drop (n-n%16):=⟨_,rfl⟩
    have ht2:(l.take n).take (n-n%16)=l.take (n-n%16):=by rw [List.take_take,Nat.min_eq_left (by omega)]
    rw [←hrest,ht2] at h
    generalize hbe:blk key nonce (UInt32.ofInt 0)=BB at*
    clear hG
    generalize rOf own=r at*
    generalize zdh aad.length=fa at*
    obtain ⟨s1,hs1⟩: ∃s1,s1=aad++fa:=⟨_,rfl⟩
    have hs1l:s1.length≤65600:=by rw [hs1,List.length_append,hfa];omega
    have z5:([0,0,0,0,0]:List UInt64).length=5:=rfl
    refine zv (by rw [hfa];omega) ?_
    rw [←hs1]
    refine za ?_
    refine yf fun t1=>?_
    have e1:List.take s1.length (s1++t1)=s1:=List.take_left' rfl
    have hk2:((n:Int)-(n:Int).tmod 16).toNat=n-n%16:=by omega
    have hsl:=zg9 c ((n:Int)-(n:Int).tmod 16).toNat
    have hx1:=zlw (r:=r) z5 (List.take s1.length (s1++t1))
    have hx2:=zlw (r:=r) hx1 (List.take ((n:Int)-(n:Int).tmod 16).toNat l)
    have hp1:r.length=5∧([0,0,0,0,0]:List UInt64).length=5∧s1.length≤(s1++t1).length∧s1.length≤s1.length+t1.length:=⟨hrl,rfl,by rw [List.length_append];omega,by omega⟩
    have hp2:r.length=5∧(zd3 r [0,0,0,0,0] (List.take s1.length (s1++t1))).length=5∧((n:Int)-(n:Int).tmod 16).toNat≤l.length∧((n:Int)-(n:Int).tmod 16).toNat≤c:=⟨hrl,hx1,by omega,by omega⟩
    have hp3:off (ya [] (slO c ((n:Int)-(n:Int).tmod 16).toNat) ty5.sz)+(n-((n:Int)-(n:Int).tmod 16).toNat)≤l.length:=by
      show slO c ((n:Int)-(n:Int).tmod 16).toNat+_≤_;omega
    have hrl3:(List.take (n-((n:Int)-(n:Int).tmod 16).toNat) (List.drop (off (ya [] (slO c ((n:Int)-(n:Int).tmod 16).toNat) ty5.sz)) l)).length≤16:=by
      rw [List.length_take];omega
    have hf1:(zdh ((n:Int)).toNat).length≤16:=by rw [zjy];omega
    have h81:(zih ((aad.length:Int)).toNat).length=8:=zhp _
    have h82:(zih ((n:Int)).toNat).length=8:=zhp _
    have hn0:0≤(n:Int):=by omega
    have ha0:0≤(aad.length:Int):=by omega
    have hRR:List.take (n-((n:Int)-(n:Int).tmod 16).toNat) (List.drop (off (ya [] (slO c ((n:Int)-(n:Int).tmod 16).toNat) ty5.sz)) l)=rest:=by
      rw [hk2,hrest,List.drop_take]
      show List.take _ (List.drop (slO c (n-n%16)) l)=_
      by_cases hc2:c=n-n%16
      ·rw [show n-(n-n%16)=0 by omega,List.take_zero,List.take_zero]
      ·rw [yv hc2]
    refine za ?_
    refine yf fun t2=>?_
    refine za ?_
    refine zv ⟨zlw hx2 _,hol⟩ ?_
    refine za ?_
    have hS:List.take s1.length (s1++t1)=aad++fa:=by rw [e1,hs1]
    have hfin:zh5 (zd3 r (zd3 r (zd3 r [0,0,0,0,0] (List.take s1.length (s1++t1))) (List.take ((n:Int)-(n:Int).tmod 16).toNat l)) (List.take (List.take (n-((n:Int)-(n:Int).tmod 16).toNat) (List.drop (off (ya [] (slO c ((n:Int)-(n:Int).tmod 16).toNat) ty5.sz)) l)++zdh ((n:Int)).toNat++zih ((aad.length:Int)).toNat++zih ((n:Int)).toNat).length ((List.take (n-((n:Int)-(n:Int).tmod 16).toNat) (List.drop (off (ya [] (slO c ((n:Int)-(n:Int).tmod 16).toNat) ty5.sz)) l)++zdh ((n:Int)).toNat++zih ((aad.length:Int)).toNat++zih ((n:Int)).toNat)++t2))) own=zh5 (zd3 r (zd3 r (zd3 r [0,0,0,0,0] (aad++fa)) (l.take (n-n%16))) (rest++zdh n++zih aad.length++zih n)) own:=by
      rw [List.take_left' (l₂:=t2) rfl,hRR,hS,hk2,hA,hN]
    conv=>whnf
    refine yu (hp':= [.mk t [.arr8 m l]]) [0] h ?_
    repeat ((conv=>whnf);refine zc ?_)
    conv=>whnf
    exact zu (congrArg SV.str hfin)
   ·exact h.elim
end Go.Sym.Z

namespace Go.Sym.Z
open Go Go.Proofs.Tryz Go.Sym.Lp Go.Sym.Pol Go.Sym.Cha
set_option maxRecDepth 100000
attribute [local irreducible] yr xl blk
def za7 (key nonce aad s:List UInt8):List UInt8:=
  xl key nonce 1 s++yr key nonce aad (xl key nonce 1 s)
theorem zq5 (key nonce aad b:List UInt8):(yr key nonce aad b).length=16:=by
  unfold yr
  exact zwz _ _
end Go.Sym.Z

namespace Go.Sym.Z
open Go Go.Proofs.Tryz Go.Sym.Lp Go.Sym.Gcm Go.Sym.Aes Go.Sym.Pol Go.Sym.Cha
set_option maxRecDepth 100000
def yby:List (Nat×List PStep):= []
def ybw:List (Nat×List PStep):= []
def yba:List (Nat×List PStep):= []
attribute [local irreducible] za7 yr zgv ziu zgs xl
def zgt (w:Int) (n:Nat):Prop:=w=4865∧n=16∨w=4866∧n=32∨w=4867∧n=32
instance (w:Int) (n:Nat):Decidable (zgt w n):=by unfold zgt;exact inferInstance
def y0 (w:Int) (key nonce aad s:List UInt8):List UInt8:=if w=4867 then za7 key nonce aad s else zgv key nonce aad s
def xo (w:Int) (key nonce aad s:List UInt8):List UInt8:=if w=4867 then yr key nonce aad s else ziu key nonce aad s
def yw (w:Int) (key nonce s:List UInt8):List UInt8:=if w=4867 then xl key nonce 1 s else zgs key nonce s
theorem xw (w:Int) (key nonce s:List UInt8):(yw w key nonce s).length=s.length:=by
  unfold yw;split
  ·exact zik _ _ _ _
  ·exact z0x _ _ _
theorem zcb (w:Int) (key nonce aad s:List UInt8):(xo w key nonce aad s).length=16:=by
  unfold xo;split
  ·exact zq5 _ _ _ _
  ·exact zy1 _ _ _ _
theorem zcc (w:Int) (key nonce aad s:List UInt8):y0 w key nonce aad s=yw w key nonce s++xo w key nonce aad (yw w key nonce s):=by
  unfold y0 yw xo
  split
  ·unfold za7;rfl
  ·unfold zgv;rfl
def ztc:Spec:=fun args hp K=>match args,hp with
  | [.int w],[]=>yg (decide (w=4865)) (K (.tup [.int 16,.int 256,.int 0]) []) (yg (decide (w=4866)) (K (.tup [.int 32,.int 384,.int 0]) []) (yg (decide (w=4867)) (K (.tup [.int 32,.int 256,.int 0]) []) (K (.tup [.int 0,.int 0,.int 800]) [])))
  |_,_=>False
theorem zpp:zp prog 85 ztc:=by
  refine zl x8 zg rfl func85 rfl call85 (D:=yby) ?_ ?_
  ·intro args hp K h
   unfold ztc at h
   split at h
   ·exact Nat.le_of_ble_eq_true rfl
   ·exact h.elim
  ·intro args hp K h
   unfold ztc at h
   split at h
   ·rename_i w
    obtain ⟨ht,hn⟩:=yc h
    by_cases h1:w=4865
    ·have h:=ht (decide_eq_true h1)
     refine za ?_
     exact zm [] h
    ·have h:=hn (decide_eq_false h1)
     obtain ⟨ht,hn⟩:=yc h
     by_cases h2:w=4866
     ·have h:=ht (decide_eq_true h2)
      refine za ?_
      exact zm [] h
     ·have h:=hn (decide_eq_false h2)
      obtain ⟨ht,hn⟩:=yc h
      by_cases h3:w=4867
      ·have h:=ht (decide_eq_true h3)
       refine za ?_
       exact zm [] h
      ·have h:=hn (decide_eq_false h3)
       refine za ?_
       exact zm [] h
   ·exact h.elim
def zvk:Spec:=fun args hp K=>match args,hp with
  | [.int e],[]=>K (.int e) []
  |_,_=>False
theorem zzm:zp prog 12 zvk:=by
  refine zl x8 zg rfl func12 rfl call12 (D:=yba) ?_ ?_
  ·intro args hp K h
   unfold zvk at h
   split at h
   ·exact Nat.le_of_ble_eq_true rfl
   ·exact h.elim
  ·intro args hp K h
   unfold zvk at h
   split at h
   ·rename_i e
    refine za ?_
    exact zm [] h
   ·exact h.elim
def z1z:Spec:=fun args hp K=>match args,hp with
  | [.int w,.str key,.str nonce,.str aad,.int long],[]=>K (.bool (decide (zgt w key.length∧nonce.length=12∧aad.length≤65536∧long≤65536))) []
  |_,_=>False
set_option maxHeartbeats 4000000 in
theorem z18:zp prog 88 z1z:=by
  refine zl x8 (ze zpp zg) rfl func88 rfl call88 (D:=ybw) ?_ ?_
  ·intro args hp K h
   unfold z1z at h
   split at h
   ·exact Nat.le_of_ble_eq_true rfl
   ·exact h.elim
  ·intro args hp K h
   unfold z1z at h
   split at h
   ·rename_i w key nonce aad long
    have four:w=4865∨w=4866∨w=4867∨(w≠4865∧w≠4866∧w≠4867):=by omega
    by_cases hk:zgt w key.length
    ·have hk':=hk
     unfold zgt at hk'
     by_cases h2:nonce.length=12
     ·by_cases h3:aad.length≤65536
      ·have hd:decide (zgt w key.length∧nonce.length=12∧aad.length≤65536∧long≤65536)=decide (long≤65536):=by
         by_cases h4:long≤65536
         ·rw [decide_eq_true h4];exact decide_eq_true ⟨hk,h2,h3,h4⟩
         ·rw [decide_eq_false h4];exact decide_eq_false fun hh=>h4 hh.2.2.2
       rw [hd] at h
       rcases hk' with ⟨h0,h1⟩|⟨h0,h1⟩|⟨h0,h1⟩
       ·refine za ?_
        exact zm [] h
       ·refine za ?_
        exact zm [] h
       ·refine za ?_
        exact zm [] h
      ·rw [decide_eq_false fun hh=>h3 hh.2.2.1] at h
       rcases hk' with ⟨h0,h1⟩|⟨h0,h1⟩|⟨h0,h1⟩
       ·refine za ?_
        exact zm [] h
       ·refine za ?_
        exact zm [] h
       ·refine za ?_
        exact zm [] h
     ·rw [decide_eq_false fun hh=>h2 hh.2.1] at h
      rcases hk' with ⟨h0,h1⟩|⟨h0,h1⟩|⟨h0,h1⟩
      ·refine za ?_
       exact zm [] h
      ·refine za ?_
       exact zm [] h
      ·refine za ?_
       exact zm [] h
    ·rw [decide_eq_false fun hh=>hk hh.1] at h
     unfold zgt at hk
     rcases four with h0|h0|h0|⟨h0,h1,h2⟩
     ·refine za ?_
      exact zm [] h
     ·refine za ?_
      exact zm [] h
     ·refine za ?_
      exact zm [] h
     ·refine za ?_
      exact zm [] h
   ·exact h.elim
end Go.Sym.Z

namespace Go.Sym.Z
open Go Go.Proofs.Tryz Go.Sym.Lp Go.Sym.Gcm Go.Sym.Aes Go.Sym.Pol Go.Sym.Cha
set_option maxRecDepth 100000
attribute [local irreducible] za7 yr zgv ziu zgs xl
end Go.Sym.Z

namespace Go.Sym.Z
open Go Go.Proofs.Tryz Go.Sym.Lp Go.Sym.Gcm Go.Sym.Aes Go.Sym.Pol Go.Sym.Cha
set_option maxRecDepth 100000
attribute [local irreducible] za7 yr zgv ziu zgs xl
def z71:List (Nat×List PStep):= [(1,[⟨0,[]⟩,⟨1,[]⟩,⟨3,[0,1]⟩,⟨4,[0,1]⟩,⟨2,[3,4]⟩,⟨5,[]⟩,⟨6,[]⟩])]
def z9s:List (Nat×List PStep):= [(2,[⟨0,[]⟩,⟨1,[]⟩,⟨2,[0,1]⟩,⟨3,[0,1,2]⟩,⟨4,[0,1]⟩,⟨5,[]⟩])]
def ybb:List (Nat×List PStep):= []
def yb1:List (Nat×List PStep):= []
def yb5:List (Nat×List PStep):= []
def z6q:List (Nat×TyI):= [(3,ty3),(4,ty4),(5,ty5),(9,ty9),(48,zc6),(51,zcx),(168,zdc),(113,zad),(99,x4),(183,zbr),(186,zew),(134,zes),(178,zdz),(216,zd4),(214,zdu),(212,zd2),(132,ze2),(136,zfb)]
theorem zax: ∀t i,yz z6q t=some i→yn prog t i:=(zb ty3_ok (zb zbu (zb zby (zb zbz (zb zaw (zb za2 (zb zho (zb zaq (zb zbp (zb zq2 (zb zr9 (zb zrf (zb zmj (zb zk9 (zb zk3 (zb zmv (zb z0p (zb zzh zae))))))))))))))))))
def zbe (l:List UInt8) (a na b nb:Nat) (s:List UInt8):List UInt8:=zt (zt l a (s.take na)) b ((s.drop na).take nb)
def zha:Spec:=fun args hp K=>match args,hp with
  | [.int w,.str key,.str nonce],[]=>yg (decide (w=4867)) (K (.agg [.str key,.str nonce,.nilptr]) [])
      (Pre (key.length=16∨key.length=32) (K (.agg [.str key,.str nonce,.ptr 0 0 0 []]) [.mk 186 [.ptr 1 0 0 [],.u64 (gH (gW key) (gR key)).1,.u64 (gH (gW key) (gR key)).2],.mk 216 [.arr8 256 box,.sl 2 0 0 [] (gR key) (gR key)],.mk 168 [.arr8 (16*gR key) (gW key)]]))
  |_,_=>False
theorem zj4:zp prog 90 zha:=by
  refine zl zax (ze zzg zg) rfl func90 rfl call90 (D:=ybb) ?_ ?_
  ·intro args hp K h
   unfold zha at h
   split at h
   ·exact Nat.le_of_ble_eq_true rfl
   ·exact h.elim
  ·intro args hp K h
   unfold zha at h
   split at h
   ·rename_i w key nonce
    obtain ⟨ht,hn⟩:=yc h
    by_cases h0:w=4867
    ·have h:=ht (decide_eq_true h0)
     refine za ?_
     exact zm [] h
    ·have h:=hn (decide_eq_false h0)
     obtain ⟨hk,h⟩:=zi h
     have hd:=decide_eq_true hk
     repeat ((conv=>whnf);first|refine zy ?_|refine zk ?_|refine zj ?_|refine zc ?_|refine zv (by first|exact hd) ?_|refine zr (by first|exact hd) ?_|refine zq (by first|exact hd) ?_)
     conv=>whnf
     exact zm [2,3,4] h
   ·exact h.elim
def z1s:Spec:=fun args hp K=>match args,hp with
  | [.agg [.str key,.str nonce,.nilptr],.str aad,.sl 0 0 0 [] n c],[.mk t [.arr8 m l]]=>Pre (key.length=32∧nonce.length=12∧aad.length≤65536∧n≤65536∧n≤l.length∧n≤c) (K (.str (yr key nonce aad (l.take n))) [.mk t [.arr8 m l]])
  | [.agg [.str key,.str nonce,.ptr 0 0 0 []],.str aad,.sl 3 0 0 [] n c],[.mk t0 [.ptr 1 0 0 [],.u64 h1,.u64 h2],.mk t1 [.arr8 256 bx,.sl 2 0 0 [] R cR],.mk t2 [.arr8 N W],.mk t [.arr8 m l]]=>
      Pre (bx=box∧nonce.length=12∧1≤R∧R≤100∧16*R≤W.length∧n≤l.length∧n≤c∧aad.length≤65536∧n≤70000)
      (K (.str (gtg W R (h1,h2) nonce aad (l.take n))) [.mk t0 [.ptr 1 0 0 [],.u64 h1,.u64 h2],.mk t1 [.arr8 256 bx,.sl 2 0 0 [] R cR],.mk t2 [.arr8 N W],.mk t [.arr8 m l]])
  |_,_=>False
theorem zy3:zp prog 92 z1s:=by
  refine zl zax (ze z7q (ze z6g zg)) rfl func92 rfl call92 (D:=yb1) ?_ ?_
  ·intro args hp K h
   unfold z1s at h
   split at h
   ·exact Nat.le_of_ble_eq_true rfl
   ·exact Nat.le_of_ble_eq_true rfl
   ·exact h.elim
  ·intro args hp K h
   unfold z1s at h
   split at h
   ·obtain ⟨hp,h⟩:=zi h
    refine za ?_
    exact zm [0] h
   ·obtain ⟨hp,h⟩:=zi h
    refine za ?_
    exact zm [0,1,2,3] h
   ·exact h.elim
def z0f:Spec:=fun args hp K=>match args,hp with
  | [.agg [.str key,.str nonce,.nilptr],.sl 0 0 0 [] n cap],[.mk t [.arr8 m l]]=>Pre (key.length=32∧nonce.length=12∧n≤l.length∧n≤cap∧n≤9223372036854775807)
      (K (.tup []) [.mk t [.arr8 m (xl key nonce (UInt32.ofInt 1) (l.take n)++l.drop n)]])
  | [.agg [.str key,.str nonce,.ptr 0 0 0 []],.sl 3 0 0 [] n cap],[.mk t0 [.ptr 1 0 0 [],.u64 h1,.u64 h2],.mk t1 [.arr8 256 bx,.sl 2 0 0 [] R c],.mk t2 [.arr8 N W],.mk t [.arr8 m l]]=>
      Pre (bx=box∧nonce.length=12∧1≤R∧R≤100∧16*R≤W.length∧n≤l.length∧n≤cap∧n≤9223372036854775807)
      (K (.tup []) [.mk t0 [.ptr 1 0 0 [],.u64 h1,.u64 h2],.mk t1 [.arr8 256 bx,.sl 2 0 0 [] R c],.mk t2 [.arr8 N W],.mk t [.arr8 m (gst W R nonce 2 (l.take n)++l.drop n)]])
  |_,_=>False
theorem z17:zp prog 91 z0f:=by
  refine zl zax (ze z35 (ze z6d zg)) rfl func91 rfl call91 (D:=yb5) ?_ ?_
  ·intro args hp K h
   unfold z0f at h
   split at h
   ·exact Nat.le_of_ble_eq_true rfl
   ·exact Nat.le_of_ble_eq_true rfl
   ·exact h.elim
  ·intro args hp K h
   unfold z0f at h
   split at h
   ·obtain ⟨hp,h⟩:=zi h
    refine za ?_
    exact zm [0] h
   ·obtain ⟨hp,h⟩:=zi h
    refine za ?_
    exact zm [0,1,2,3] h
   ·exact h.elim
end Go.Sym.Z

namespace Go.Sym.Z
open Go Go.Proofs.Tryz Go.Sym.Lp Go.Sym.Gcm Go.Sym.Aes Go.Sym.Pol Go.Sym.Cha
set_option maxRecDepth 100000
attribute [local irreducible] za7 yr zgv ziu zgs xl zbe xo yw gst gtg gW gR gH
def z74:List (Nat×List PStep):= [(9,[⟨0,[]⟩,⟨1,[0]⟩,⟨2,[0,1]⟩,⟨3,[0,1,2]⟩,⟨4,[0,1]⟩,⟨6,[0,1,2,3,4]⟩,⟨7,[0,1,2,3,4,6]⟩,⟨8,[0,1,2,3,4]⟩,⟨9,[0,1,2,3,4]⟩,⟨5,[6,7,8,9]⟩,⟨10,[]⟩]),(11,[⟨0,[]⟩,⟨1,[0]⟩,⟨2,[0,1]⟩,⟨3,[0]⟩,⟨4,[]⟩])]
def ybh:List (Nat×List PStep):= [(7,[⟨0,[]⟩,⟨1,[0]⟩,⟨2,[0,1]⟩,⟨3,[0]⟩,⟨4,[]⟩]),(8,[⟨0,[]⟩,⟨1,[0]⟩,⟨2,[]⟩,⟨3,[0,1,2]⟩,⟨4,[0,1,2,3]⟩,⟨5,[0,1,2,3,4]⟩,⟨6,[0,1,2,3,4,5]⟩,⟨7,[0,1,2,3,4]⟩,⟨8,[0,1,2]⟩,⟨9,[]⟩])]
def two (l:List UInt8) (a na b nb:Nat):List UInt8:=(l.drop a).take na++(l.drop b).take nb
def znr (w:Int) (key nonce aad:List UInt8) (long:Int):Prop:=zgt w key.length∧nonce.length=12∧aad.length≤65536∧long≤65536
instance (w:Int) (key nonce aad:List UInt8) (long:Int):Decidable (znr w key nonce aad long):=by unfold znr;exact inferInstance
theorem zr7 {l s x:List UInt8} {a na b nb:Nat} (h:s.length=na+nb):zbe l a na b nb (s++x)=zbe l a na b nb s:=by
  unfold zbe
  rw [List.take_append_of_le_length (by omega),List.drop_append_of_le_length (by omega),List.take_append_of_le_length (by rw [List.length_drop];omega)]
end Go.Sym.Z

namespace Go.Sym.Z
open Go Go.Proofs.Tryz Go.Sym.Lp Go.Sym.Gcm Go.Sym.Aes Go.Sym.Pol Go.Sym.Cha
set_option maxRecDepth 100000
attribute [local irreducible] za7 yr zgv ziu zgs xl zbe xo yw gst gtg gW gR gH y0
end Go.Sym.Z

namespace Go.Sym.Z
open Go Go.Proofs.Tryz Go.Sym.Lp Go.Sym.Cha Go.Sym.Sha Go.Sym.Hk
set_option maxRecDepth 100000
attribute [local irreducible] zaf exF
def z9w:List (Nat×List PStep):= []
def ybf:List (Nat×List PStep):= []
def ybt:List (Nat×List PStep):= []
def yb2:List (Nat×List PStep):= []
def ybs:List (Nat×List PStep):= [(5,[⟨0,[]⟩,⟨1,[0]⟩,⟨2,[0]⟩,⟨3,[0]⟩,⟨4,[0,1,2,3]⟩,⟨5,[0]⟩,⟨6,[]⟩,⟨7,[]⟩,⟨8,[0,1,2,3,4,5,6,7]⟩,⟨9,[0,1,2,3,4,5,6,7]⟩,⟨10,[0,1,2,3,4,5,6,7]⟩,⟨11,[0,1,2,3,4,5,6,7]⟩,⟨12,[0,1,2,3,4,5,6,7,8,9,10,11]⟩,⟨13,[0,1,2,3,4,5,6,7,8,9,10,11]⟩,⟨14,[0,1,2,3,4,5,6,7]⟩,⟨15,[0,1,2,3,4,5,6,7]⟩,⟨16,[]⟩,⟨17,[]⟩,⟨18,[]⟩])]
def ya9:List (Nat×List PStep):= []
def z9t:List (Nat×TyI):= [(3,ty3),(4,ty4),(5,ty5),(9,ty9),(48,zc6),(51,zcx),(113,zad),(99,x4),(103,zcv),(68,zg4),(70,zhj),(104,zcz),(74,zmc),(23,zma),(43,zhk)]
theorem zba: ∀t i,yz z9t t=some i→yn prog t i:=(zb ty3_ok (zb zbu (zb zby (zb zbz (zb zaw (zb za2 (zb zaq (zb zbp (zb ze3 (zb ziz (zb zh7 (zb zf7 (zb z4y (zb z4p (zb zip zae)))))))))))))))
def su (w:Int):Prop:=w=4865∨w=4866∨w=4867
instance (w:Int):Decidable (su w):=by unfold su;exact inferInstance
def hB (w:Int):Int:=if w=4866 then 384 else 256
theorem z2p (w:Int):hB w=256∨hB w=384:=by unfold hB;split<;>simp
def zz3:Spec:=fun args hp K=>match args,hp with
  | [.int w],[]=>yg (decide (su w)) (K (.tup [.int (hB w),.int 0]) []) (K (.tup [.int 0,.int 1900]) [])
  |_,_=>False
theorem z3a:zp prog 113 zz3:=by
  refine zl zba (ze zpp zg) rfl func113 rfl call113 (D:=z9w) ?_ ?_
  ·intro args hp K h
   unfold zz3 at h
   split at h
   ·exact Nat.le_of_ble_eq_true rfl
   ·exact h.elim
  ·intro args hp K h
   unfold zz3 at h
   split at h
   ·rename_i w
    obtain ⟨ht,hf⟩:=yc h
    have four:w=4865∨w=4866∨w=4867∨(w≠4865∧w≠4866∧w≠4867):=by omega
    rcases four with h0|h0|h0|⟨h0,h1,h2⟩
    ·have h:=ht (decide_eq_true (.inl h0))
     rw [show hB w=256 by unfold hB;rw [if_neg (by omega)]] at h
     refine za ?_
     exact zm [] h
    ·have h:=ht (decide_eq_true (.inr (.inl h0)))
     rw [show hB w=384 by unfold hB;rw [if_pos h0]] at h
     refine za ?_
     exact zm [] h
    ·have h:=ht (decide_eq_true (.inr (.inr h0)))
     rw [show hB w=256 by unfold hB;rw [if_neg (by omega)]] at h
     refine za ?_
     exact zm [] h
    ·have h:=hf (decide_eq_false (by unfold su;omega))
     refine za ?_
     exact zm [] h
   ·exact h.elim
def zp3:Spec:=fun args hp K=>match args,hp with
  | [.int w,.str key,.str label,.str ctx,.int size],[]=>Pre (key.length≤140737488351232∧label.length≤100∧ctx.length≤255∧0≤size∧size≤1000)
      (yg (decide (su w)) (K (.tup [.str (zaf (hB w) key label ctx size.toNat),.int 0]) []) (K (.tup [.str [],.int 1900]) []))
  |_,_=>False
theorem zyy:zp prog 86 zp3:=by
  refine zl zba (ze z3a (ze z4n zg)) rfl func86 rfl call86 (D:=ybf) ?_ ?_
  ·intro args hp K h
   unfold zp3 at h
   split at h
   ·exact Nat.le_of_ble_eq_true rfl
   ·exact h.elim
  ·intro args hp K h
   unfold zp3 at h
   split at h
   ·rename_i w key label ctx size
    obtain ⟨⟨hk,hl,hc,hs0,hs⟩,h⟩:=zi h
    obtain ⟨ht,hf⟩:=yc h
    have hp:(hB w=256∨hB w=384)∧key.length≤140737488351232∧label.length≤100∧ctx.length≤255∧0≤size∧size≤1000:=⟨z2p w,hk,hl,hc,hs0,hs⟩
    generalize e:decide (su w)=c at ht hf
    cases c
    ·have h:=hf rfl
     refine za ?_
     exact zm [] h
    ·have h:=ht rfl
     refine za ?_
     exact zm [] h
   ·exact h.elim
def aSz (w:Int):Nat:=if w=4865 then 16 else 32
def kyF (w:Int) (s:List UInt8):List UInt8:=zaf (hB w) s [107,101,121] [] (aSz w)
def ivF (w:Int) (s:List UInt8):List UInt8:=zaf (hB w) s [105,118] [] 12
theorem zuw (w:Int) (s:List UInt8):(kyF w s).length=aSz w:=zsk (z2p w) _ _ _ _
theorem zuz (w:Int) (s:List UInt8):(ivF w s).length=12:=zsk (z2p w) _ _ _ _
def z0r:Spec:=fun args hp K=>match args,hp with
  | [.int w,.str s],[]=>Pre (s.length≤140737488351232)
      (yg (decide (su w)) (K (.tup [.str (kyF w s),.str (ivF w s),.int 0]) []) (K (.tup [.str [],.str [],.int 1900]) []))
  |_,_=>False
theorem z66:zp prog 62 z0r:=by
  refine zl zba (ze zpp (ze zyy zg)) rfl func62 rfl call62 (D:=ybt) ?_ ?_
  ·intro args hp K h
   unfold z0r at h
   split at h
   ·exact Nat.le_of_ble_eq_true rfl
   ·exact h.elim
  ·intro args hp K h
   unfold z0r at h
   split at h
   ·rename_i w s
    obtain ⟨hs,h⟩:=zi h
    obtain ⟨ht,hf⟩:=yc h
    have four:w=4865∨w=4866∨w=4867∨(w≠4865∧w≠4866∧w≠4867):=by omega
    rcases four with h0|h0|h0|⟨h0,h1,h2⟩
    ·have hd:decide (su w)=true:=decide_eq_true (.inl h0)
     have h:=ht hd
     rw [show kyF w s=zaf (hB w) s [107,101,121] [] (Int.toNat 16) by unfold kyF aSz;rw [if_pos h0];rfl,show ivF w s=zaf (hB w) s [105,118] [] (Int.toNat 12) by unfold ivF;rfl] at h
     refine za ?_
     exact zm [] h
    ·have hd:decide (su w)=true:=decide_eq_true (.inr (.inl h0))
     have h:=ht hd
     rw [show kyF w s=zaf (hB w) s [107,101,121] [] (Int.toNat 32) by unfold kyF aSz;rw [if_neg (by omega)];rfl,show ivF w s=zaf (hB w) s [105,118] [] (Int.toNat 12) by unfold ivF;rfl] at h
     refine za ?_
     exact zm [] h
    ·have hd:decide (su w)=true:=decide_eq_true (.inr (.inr h0))
     have h:=ht hd
     rw [show kyF w s=zaf (hB w) s [107,101,121] [] (Int.toNat 32) by unfold kyF aSz;rw [if_neg (by omega)];rfl,show ivF w s=zaf (hB w) s [105,118] [] (Int.toNat 12) by unfold ivF;rfl] at h
     refine za ?_
     exact zm [] h
    ·have hd:decide (su w)=false:=decide_eq_false (by unfold su;omega)
     have h:=hf hd
     refine za ?_
     exact zm [] h
   ·exact h.elim
attribute [local irreducible] kyF ivF
def zlq:Spec:=fun args hp K=>match args,hp with
  | [.int w,.str s],[]=>Pre (s.length≤140737488351232)
      (yg (decide (su w)) (K (.tup [.ptr 0 0 0 [],.int 0]) [.mk 103 [.int w,.str (kyF w s),.str (ivF w s),.int 0]]) (K (.tup [.nilptr,.int 2100]) []))
  |_,_=>False
theorem znm:zp prog 42 zlq:=by
  refine zl zba (ze z66 zg) rfl func42 rfl call42 (D:=yb2) ?_ ?_
  ·intro args hp K h
   unfold zlq at h
   split at h
   ·exact Nat.le_of_ble_eq_true rfl
   ·exact h.elim
  ·intro args hp K h
   unfold zlq at h
   split at h
   ·rename_i w s
    obtain ⟨hs,h⟩:=zi h
    obtain ⟨ht,hf⟩:=yc h
    generalize e:decide (su w)=c at ht hf
    cases c
    ·have h:=hf rfl
     refine za ?_
     exact zm [] h
    ·have h:=ht rfl
     refine za ?_
     exact zm [0] h
   ·exact h.elim
def xe (k:Int):Prop:=k=20∨k=21∨k=22∨k=23
instance (k:Int):Decidable (xe k):=by unfold xe;exact inferInstance
def zs9:Spec:=fun args hp K=>match args,hp with
  | [.int k],[]=>K (.bool (decide (xe k))) []
  |_,_=>False
theorem zvx:zp prog 63 zs9:=by
  refine zl zba zg rfl func63 rfl call63 (D:=ya9) ?_ ?_
  ·intro args hp K h
   unfold zs9 at h
   split at h
   ·exact Nat.le_of_ble_eq_true rfl
   ·exact h.elim
  ·intro args hp K h
   unfold zs9 at h
   split at h
   ·rename_i k
    have yac:k=20∨k=21∨k=22∨k=23∨(k≠20∧k≠21∧k≠22∧k≠23):=by omega
    rcases yac with h0|h0|h0|h0|⟨h0,h1,h2,h3⟩
    ·rw [decide_eq_true (show xe k by unfold xe;omega)] at h
     refine za ?_
     exact zm [] h
    ·rw [decide_eq_true (show xe k by unfold xe;omega)] at h
     refine za ?_
     exact zm [] h
    ·rw [decide_eq_true (show xe k by unfold xe;omega)] at h
     refine za ?_
     exact zm [] h
    ·rw [decide_eq_true (show xe k by unfold xe;omega)] at h
     refine za ?_
     exact zm [] h
    ·rw [decide_eq_false (show ¬xe k by unfold xe;omega)] at h
     refine za ?_
     exact zm [] h
   ·exact h.elim
def zm4 (iv:List UInt8) (many:Int):Nat→List UInt8
  |0=>iv
  |i+1=>(zm4 iv many i).set (12-1-i) ((zm4 iv many i).getD (12-1-i) 0^^^UInt8.ofInt (many/ 2^(8*i)))
theorem zhs (iv:List UInt8) (many:Int): ∀i,(zm4 iv many i).length=iv.length
  |0=>rfl
  |i+1=>by simp only [zm4,List.length_set];exact zhs iv many i
def ncF (iv:List UInt8) (many:Int):List UInt8:=zm4 iv many 8
theorem zus (iv:List UInt8) (many:Int):(ncF iv many).length=iv.length:=zhs _ _ _
def zuh:Spec:=fun args hp K=>match args,hp with
  | [.ptr 0 0 0 []],[.mk t [.int w,.str key,.str iv,.int many]]=>Pre (iv.length=12) (K (.str (ncF iv many)) [.mk t [.int w,.str key,.str iv,.int many]])
  |_,_=>False
theorem zvu:zp prog 67 zuh:=by
  refine zl zba zg rfl func67 rfl call67 (D:=ybs) ?_ ?_
  ·intro args hp K h
   unfold zuh at h
   split at h
   ·exact Nat.le_of_ble_eq_true rfl
   ·exact h.elim
  ·intro args hp K h
   unfold zuh at h
   split at h
   ·rename_i t w key iv many
    obtain ⟨hiv,h⟩:=zi h
    refine za ?_
    refine yf fun tl=>?_
    refine za ?_
    refine zx (Ix (8)) (fun q=>⟨[(3,.sl 1 0 0 [] iv.length (iv.length+tl.length)),(10,.int q.i),(0,.ptr 0 0 0 [])],[.mk t [.int w,.str key,.str iv,.int many],.mk 5 [.arr8 (iv.length+tl.length) (zm4 iv many q.i++tl)]]⟩) (fun q=>(8)-q.i) ⟨0,Nat.zero_le _⟩ [0,1] ?_ ?_
    ·exact zo
    ·intro q
     have hi:=q.hi
     have hl:=zhs iv many q.i
     rw [hiv] at hl
     have hla:(zm4 iv many q.i++tl).length=12+tl.length:=by rw [List.length_append,hl]
     have hof:off (ya [] ((iv.length:Int)-1-(q.i:Int)).toNat ty5.sz)=12-1-q.i:=by rw [zw];show 0+((iv.length:Int)-1-(q.i:Int)).toNat*1=_;omega
     have hk:(8*(q.i:Int)).toNat=8*q.i:=by omega
     by_cases h4:q.i<8
     ·refine za ?_
      refine ⟨⟨q.i+1,h4⟩,[0,1],by show (8)-(q.i+1)<(8)-q.i;omega,?_⟩
      repeat ((conv=>whnf);refine zc ?_)
      conv=>whnf
      exact zu (congrArg (fun x=>SV.agg [SV.arr8 (iv.length+tl.length) x]) (show _=zm4 iv many (q.i+1)++tl by simp only [zm4];rw [hof,hk,List.set_append_left _ _ (by omega),List.getD_eq_getElem?_getD,List.getElem?_append_left (by omega),←List.getD_eq_getElem?_getD]))
     ·have e4:q.i=8:=by omega
      have hF:List.take iv.length (List.drop (off []) (zm4 iv many 8++tl))=ncF iv many:=List.take_left' (zhs iv many 8)
      rw [e4] at hla
      have hpo:off []+iv.length≤(zm4 iv many 8++tl).length:=by rw [hla,hiv];show 0+12≤_;omega
      rw [e4]
      refine za ?_
      rw [hF]
      conv=>whnf
      exact zm [0] h
   ·exact h.elim
end Go.Sym.Z

namespace Go.Sym.Z
open Go Go.Proofs.Tryz Go.Sym.Lp Go.Sym.Aes
set_option maxRecDepth 100000
attribute [local irreducible] box tw rc ks
structure Wx (n:Nat) where
  i:Nat
  hi:i≤n
  t:Tl UInt8 4
structure Wz (n m:Nat) where
  i:Nat
  h1:n≤i
  h2:i≤m
  t:Tl UInt8 4
end Go.Sym.Z

namespace Go.Sym.Z
open Go Go.Proofs.Tryz Go.Sym.Lp Go.Sym.Aes
set_option maxRecDepth 100000
attribute [local irreducible] box tw zcl zll
end Go.Sym.Z

namespace Go.Sym.Z
open Go Go.Proofs.Tryz Go.Sym.Lp Go.Sym.Gcm Go.Sym.Aes
set_option maxRecDepth 100000
attribute [local irreducible] ldE ld y7 hf4 zez enc ks box ztp wr
end Go.Sym.Z

namespace Go.Sym.Z
open Go Go.Proofs.Tryz Go.Sym.Lp Go.Sym.Cha
set_option maxRecDepth 100000
attribute [local irreducible] qr wd zh3 blk beg zxj
end Go.Sym.Z

namespace Go.Sym.Pol
open Go.Sym.Lp
end Go.Sym.Pol
namespace Go.Sym.Pol
open Go.Sym.Lp
end Go.Sym.Pol
namespace Go.Sym.Pol
end Go.Sym.Pol

namespace Go.Sym.Z
open Go Go.Proofs.Tryz Go.Sym.Lp Go.Sym.Pol Go.Sym.Cha
set_option maxRecDepth 100000
attribute [local irreducible] yr xl blk zd0
def lit (n:Int) (i:Nat):UInt8:=UInt8.ofInt (za5 BinOp.and (n/ 2^(8*(i:Int)).toNat) 255)
end Go.Sym.Z

namespace Go.Sym.Gcm
open Go.Sym Go.Sym.Lp Go.Sym.Aes
end Go.Sym.Gcm

namespace Go.Sym.Z
open Go Go.Proofs.Tryz Go.Sym.Lp Go.Sym.Gcm Go.Sym.Aes Go.Sym.Pol
set_option maxRecDepth 100000
attribute [local irreducible] Go.Sym.Gcm.ld y7 hf4 zez enc ks box ztp wr gst znf zdh
end Go.Sym.Z

namespace Go.Sym.Z
open Go Go.Proofs.Tryz Go.Sym.Lp Go.Sym.Gcm Go.Sym.Aes
set_option maxRecDepth 100000
attribute [local irreducible] gst gtg gH enc ks box
end Go.Sym.Z

namespace Go.Sym.Z
open Go Go.Proofs.Tryz Go.Sym.Lp Go.Sym.Pol Go.Sym.Cha
set_option maxRecDepth 100000
attribute [local irreducible] yr xl blk zd0
end Go.Sym.Z

namespace Go.Sym.Pol
end Go.Sym.Pol
namespace Go.Sym.Pol
end Go.Sym.Pol

namespace Go.Sym.Z
open Go Go.Proofs.Tryz Go.Sym.Lp Go.Sym.Pol Go.Sym.Cha
set_option maxRecDepth 100000
attribute [local irreducible] yr xl blk zd0
end Go.Sym.Z

namespace Go.Sym.Z
open Go Go.Proofs.Tryz Go.Sym.Lp Go.Sym.Pol Go.Sym.Cha
set_option maxRecDepth 100000
attribute [local irreducible] xl blk zdh zih
end Go.Sym.Z

namespace Go.Sym.Pol
open Go.Sym.Lp
end Go.Sym.Pol
namespace Go.Sym.Pol
end Go.Sym.Pol
namespace Go.Sym.Pol
end Go.Sym.Pol

namespace Go.Sym.Pol
open Go.Sym.Lp
end Go.Sym.Pol

namespace Go.Sym.Pol
open Go.Sym.Lp
end Go.Sym.Pol

namespace Go.Sym.Pol
open Go.Sym.Lp
end Go.Sym.Pol

namespace Go.Sym.Pol
open Go.Sym.Lp
end Go.Sym.Pol

namespace Go.Sym.Pol
open Go.Sym.Lp
end Go.Sym.Pol

namespace Go.Sym.Pol
open Go.Sym.Lp
end Go.Sym.Pol

namespace Go.Sym.Pol
open Go.Sym.Lp
end Go.Sym.Pol

namespace Go.Sym.Pol
open Go.Sym.Lp
end Go.Sym.Pol

namespace Go.Sym.Pol
open Go.Sym.Lp
end Go.Sym.Pol

namespace Go.Sym.Pol
open Go.Sym.Lp
end Go.Sym.Pol

namespace Go.Sym.Pol
open Go.Sym.Lp
end Go.Sym.Pol

namespace Go.Sym.Z
open Go Go.Proofs.Tryz Go.Sym.Lp Go.Sym.Gcm Go.Sym.Aes Go.Sym.Pol Go.Sym.Cha
set_option maxRecDepth 100000
attribute [local irreducible] za7 yr zgv ziu zgs xl
end Go.Sym.Z

namespace Go.Sym.Z
open Go Go.Proofs.Tryz Go.Sym.Lp Go.Sym.Cha Go.Sym.Sha Go.Sym.Hk Go.Sym.Gcm
set_option maxRecDepth 100000
attribute [local irreducible] zw3 zam
attribute [local irreducible] exF
attribute [local irreducible] zaf
attribute [local irreducible] kyF ivF
end Go.Sym.Z

namespace Go.Sym.Z
open Go Go.Proofs.Tryz Go.Sym.Lp Go.Sym.Cha Go.Sym.Sha Go.Sym.Hk
set_option maxRecDepth 100000
attribute [local irreducible] zaf exF kyF ivF
def ybi:List (Nat×List PStep):= [(3,[⟨0,[]⟩,⟨1,[0]⟩,⟨2,[0]⟩,⟨3,[0]⟩,⟨4,[0]⟩,⟨5,[]⟩,⟨6,[]⟩,⟨7,[0,1,2,3,4,5,6]⟩,⟨8,[0,1,2,3,4,5,6]⟩,⟨9,[0,1,2,3,4,5,6]⟩,⟨10,[0,1,2,3,4,5,6]⟩,⟨11,[]⟩,⟨12,[0,1,2,3,4,5,6,7,8,9,10,11]⟩,⟨13,[0,1,2,3,4,5,6,7,8,9,10,11]⟩,⟨14,[0,1,2,3,4,5,6,7,8,9,10,11]⟩,⟨15,[0,1,2,3,4,5,6,7,8,9,10,11]⟩,⟨16,[]⟩,⟨17,[]⟩,⟨18,[]⟩])]
def ybz:List (Nat×List PStep):= [(1,[⟨0,[]⟩,⟨1,[]⟩,⟨2,[]⟩,⟨3,[]⟩,⟨6,[0,1,2,3]⟩,⟨4,[0,1,2,3,6]⟩,⟨5,[6]⟩,⟨7,[0,1,2,3,5]⟩,⟨8,[]⟩,⟨9,[]⟩])]
def yar:List (Nat×List PStep):= []
def ybn:List (Nat×List PStep):= []
def ya8:List (Nat×List PStep):= []
def hdF (kind n:Int):List UInt8:= [UInt8.ofInt kind,3,3,UInt8.ofInt (n/ 2^8),UInt8.ofInt n]
def zs2:Spec:=fun args hp K=>match args,hp with
  | [.int kind,.int n],[]=>K (.str (hdF kind n)) []
  |_,_=>False
theorem z3i:zp prog 64 zs2:=by
  refine zl zba (ze zk8 zg) rfl func64 rfl call64 (D:=ybz) ?_ ?_
  ·intro args hp K h
   unfold zs2 at h
   split at h
   ·exact Nat.le_of_ble_eq_true rfl
   ·exact h.elim
  ·intro args hp K h
   unfold zs2 at h
   split at h
   ·rename_i kind n
    refine za ?_
    rw [zhy,if_neg (by decide)]
    refine za ?_
    rw [if_neg (by decide)]
    refine za ?_
    conv=>whnf
    exact zm [] h
   ·exact h.elim
def zg3:Spec:=fun args hp K=>match args,hp with
  | [.int p],[]=>K (.tup [.agg [.int p,.nilptr],.bool (decide (0≤p∧p≤16384))]) []
  |_,_=>False
theorem zr6:zp prog 40 zg3:=by
  refine zl zba zg rfl func40 rfl call40 (D:=yar) ?_ ?_
  ·intro args hp K h
   unfold zg3 at h
   split at h
   ·exact Nat.le_of_ble_eq_true rfl
   ·exact h.elim
  ·intro args hp K h
   unfold zg3 at h
   split at h
   ·rename_i p
    by_cases h1:0≤p
    ·by_cases h2:p≤16384
     ·have d2:decide (p≤16384)=true:=decide_eq_true h2
      rw [decide_eq_true ⟨h1,h2⟩] at h
      refine za ?_
      rw [d2]
      conv=>whnf
      exact zm [] h
     ·have d2:decide (p≤16384)=false:=decide_eq_false h2
      rw [decide_eq_false fun hh=>h2 hh.2] at h
      refine za ?_
      rw [d2]
      conv=>whnf
      exact zm [] h
    ·rw [decide_eq_false fun hh=>h1 hh.1] at h
     refine za ?_
     exact zm [] h
   ·exact h.elim
def inL (p n:Int):Int:=if 0<p then min ((n+1+p-1)/ p*p) 16385 else n+1
end Go.Sym.Z
