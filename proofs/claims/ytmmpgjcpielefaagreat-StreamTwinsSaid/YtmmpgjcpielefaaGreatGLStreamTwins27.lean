/-
  Contracts of functions of the program, each said of symbolic values, and plain laws; no condition beyond each statement's own.
-/
import Derived.Test.YtmmpgjcpielefaaGreatGLStreamTwins26
import Derived.Test.YtmmpgjcpielefaaGreatGLStreamTwins21
import Derived.Test.YtmmpgjcpielefaaGreatGLStreamTwins20
import Derived.Test.YtmmpgjcpielefaaGreatGLStreamTwins25
set_option linter.unusedSimpArgs false
set_option linter.unusedVariables false
namespace Go.Sym.Z
open Go Go.Proofs.Tryz Go.Sym.Lp Go.Sym.Pol Go.Sym.Cha
set_option maxRecDepth 100000
attribute [local irreducible] zdt blk zh7 rOf zc6 zhv xl
def yar:List (Nat×List PStep):= []
def yap:List (Nat×List PStep):= [(6,[⟨0,[]⟩,⟨1,[0]⟩,⟨2,[0,1]⟩,⟨3,[0,1]⟩,⟨4,[0,1,2,3]⟩,⟨5,[0,1,2,3]⟩,⟨6,[0,1,2,3]⟩,⟨7,[0,1]⟩,⟨8,[0]⟩,⟨9,[0]⟩,⟨10,[0,1,2,3,4,5,6,7,8,9]⟩,⟨11,[0,1,2,3,4,5,6,7,8,9]⟩,⟨14,[0,1,2,3,4,5,6,7,8,9,10,11]⟩,⟨15,[0,1,2,3,4,5,6,7,8,9,10,11]⟩,⟨18,[0,1,2,3,4,5,6,7,8,9,10,11,14,15]⟩,⟨19,[0,1,2,3,4,5,6,7,8,9,10,11,14,15]⟩,⟨12,[0,1,2,3,4,5,6,7,8,9,14,15,18,19]⟩,⟨13,[0,14,15,18,19]⟩,⟨16,[0,1,2,3,4,5,6,7,8,9,18,19,13]⟩,⟨17,[0,18,19]⟩,⟨20,[0,1,2,3,4,5,6,7,8,9,13,17]⟩,⟨21,[0]⟩,⟨22,[0]⟩,⟨23,[]⟩])]
def z9u:List (Nat×List PStep):= [(5,[⟨0,[]⟩,⟨1,[0]⟩,⟨2,[0,1]⟩,⟨3,[0,1,2]⟩,⟨5,[0,1,2,3]⟩,⟨6,[0,1,2,3,5]⟩,⟨7,[0,1,2,3]⟩,⟨4,[5,6,7]⟩,⟨8,[]⟩])]
def yl (key nonce aad b:List UInt8):List UInt8:=
  zh7 (zzk (rOf ((blk key nonce 0).take 32)) aad b) ((blk key nonce 0).take 32)
def zmd:Spec:=fun args hp K=>match args,hp with
  | [.str key,.str nonce,.str aad,.sl 0 0 0 [] n c],[.mk t [.arr8 m l]]=>Pre (key.length=32∧nonce.length=12∧aad.length≤65536∧n≤65536∧n≤l.length∧n≤c)
      (K (.str (yl key nonce aad (l.take n))) [.mk t [.arr8 m l]])
  |_,_=>False
theorem z1d:zp prog 118 zmd:=by
  refine zn x0 (zd zto (zd zzg (zd z74 (zd z68 (zd z0x (zd z6j zl)))))) rfl func118 rfl call118 (D:=yap) ?_ ?_
  ·intro args hp K h
   unfold zmd at h
   split at h
   ·exact Nat.le_of_ble_eq_true rfl
   ·exact h.elim
  ·intro args hp K h
   unfold zmd at h
   split at h
   ·rename_i key nonce aad n c t m l
    obtain ⟨⟨hk,hn,ha,hn2,hl,hc⟩,h⟩:=zm h
    have hkn:key.length=32∧(0≤(0:Int)∧(0:Int)≤4294967295)∧nonce.length=12:=⟨hk,by decide,hn⟩
    have hbl:=zkj key nonce (UInt32.ofInt 0)
    obtain ⟨own,ho⟩: ∃own,own=(blk key nonce (UInt32.ofInt 0)).take (Int.toNat 32):=⟨_,rfl⟩
    have hol:own.length=32:=by rw [ho,List.length_take,hbl];rfl
    have hB:(l.take n).length=n:=by rw [List.length_take];omega
    have hG:yl key nonce aad (l.take n)=zh7 (zzk (rOf own) aad (l.take n)) own:=by rw [ho];unfold yl;rfl
    rw [hG] at h
    have hrl:=z5m own
    have hm:(n:Int).tmod 16=((n%16:Nat):Int):=by rw [Int.tmod_eq_emod_of_nonneg (by omega)];omega
    have hA:((aad.length:Int)).toNat=aad.length:=Int.toNat_natCast _
    have hN:((n:Int)).toNat=n:=Int.toNat_natCast _
    have hfa:=zja aad.length
    have hfn:=zja n
    have h8a:=zh5 aad.length
    have h8n:=zh5 n
    refine za ?_
    rw [←ho,hA]
    clear hbl
    unfold zzk at h
    rw [hB] at h
    obtain ⟨rest,hrest⟩: ∃rest,rest=(l.take n).drop (n-n%16):=⟨_,rfl⟩
    have ht2:(l.take n).take (n-n%16)=l.take (n-n%16):=by rw [List.take_take,Nat.min_eq_left (by omega)]
    rw [←hrest,ht2] at h
    generalize hbe:blk key nonce (UInt32.ofInt 0)=BB at*
    clear hG
    generalize rOf own=r at*
    generalize zc6 aad.length=fa at*
    obtain ⟨s1,hs1⟩: ∃s1,s1=aad++fa:=⟨_,rfl⟩
    have hs1l:s1.length≤65600:=by rw [hs1,List.length_append,hfa];omega
    have z5:([0,0,0,0,0]:List UInt64).length=5:=rfl
    refine zr (by rw [hfa];omega) ?_
    rw [←hs1]
    refine za ?_
    refine yh fun t1=>?_
    have e1:List.take s1.length (s1++t1)=s1:=List.take_left' rfl
    have hk2:((n:Int)-(n:Int).tmod 16).toNat=n-n%16:=by omega
    have hsl:=ze4 c ((n:Int)-(n:Int).tmod 16).toNat
    have hx1:=zlv (r:=r) z5 (List.take s1.length (s1++t1))
    have hx2:=zlv (r:=r) hx1 (List.take ((n:Int)-(n:Int).tmod 16).toNat l)
    have hp1:r.length=5∧([0,0,0,0,0]:List UInt64).length=5∧s1.length≤(s1++t1).length∧s1.length≤s1.length+t1.length:=⟨hrl,rfl,by rw [List.length_append];omega,by omega⟩
    have hp2:r.length=5∧(zdt r [0,0,0,0,0] (List.take s1.length (s1++t1))).length=5∧((n:Int)-(n:Int).tmod 16).toNat≤l.length∧((n:Int)-(n:Int).tmod 16).toNat≤c:=⟨hrl,hx1,by omega,by omega⟩
    have hp3:off (yb [] (slO c ((n:Int)-(n:Int).tmod 16).toNat) ty5.sz)+(n-((n:Int)-(n:Int).tmod 16).toNat)≤l.length:=by
      show slO c ((n:Int)-(n:Int).tmod 16).toNat+_≤_;omega
    have hrl3:(List.take (n-((n:Int)-(n:Int).tmod 16).toNat) (List.drop (off (yb [] (slO c ((n:Int)-(n:Int).tmod 16).toNat) ty5.sz)) l)).length≤16:=by
      rw [List.length_take];omega
    have hf1:(zc6 ((n:Int)).toNat).length≤16:=by rw [zja];omega
    have h81:(zhv ((aad.length:Int)).toNat).length=8:=zh5 _
    have h82:(zhv ((n:Int)).toNat).length=8:=zh5 _
    have hn0:0≤(n:Int):=by omega
    have ha0:0≤(aad.length:Int):=by omega
    have hRR:List.take (n-((n:Int)-(n:Int).tmod 16).toNat) (List.drop (off (yb [] (slO c ((n:Int)-(n:Int).tmod 16).toNat) ty5.sz)) l)=rest:=by
      rw [hk2,hrest,List.drop_take]
      show List.take _ (List.drop (slO c (n-n%16)) l)=_
      by_cases hc2:c=n-n%16
      ·rw [show n-(n-n%16)=0 by omega,List.take_zero,List.take_zero]
      ·rw [yy hc2]
    refine za ?_
    refine yh fun t2=>?_
    refine za ?_
    refine zr ⟨zlv hx2 _,hol⟩ ?_
    refine za ?_
    have hS:List.take s1.length (s1++t1)=aad++fa:=by rw [e1,hs1]
    have hfin:zh7 (zdt r (zdt r (zdt r [0,0,0,0,0] (List.take s1.length (s1++t1))) (List.take ((n:Int)-(n:Int).tmod 16).toNat l)) (List.take (List.take (n-((n:Int)-(n:Int).tmod 16).toNat) (List.drop (off (yb [] (slO c ((n:Int)-(n:Int).tmod 16).toNat) ty5.sz)) l)++zc6 ((n:Int)).toNat++zhv ((aad.length:Int)).toNat++zhv ((n:Int)).toNat).length ((List.take (n-((n:Int)-(n:Int).tmod 16).toNat) (List.drop (off (yb [] (slO c ((n:Int)-(n:Int).tmod 16).toNat) ty5.sz)) l)++zc6 ((n:Int)).toNat++zhv ((aad.length:Int)).toNat++zhv ((n:Int)).toNat)++t2))) own=zh7 (zdt r (zdt r (zdt r [0,0,0,0,0] (aad++fa)) (l.take (n-n%16))) (rest++zc6 n++zhv aad.length++zhv n)) own:=by
      rw [List.take_left' (l₂:=t2) rfl,hRR,hS,hk2,hA,hN]
    conv=>whnf
    refine yv (hp':= [.mk t [.arr8 m l]]) [0] h ?_
    repeat ((conv=>whnf);refine zb ?_)
    conv=>whnf
    exact zx (congrArg SV.str hfin)
   ·exact h.elim
def z3j:Spec:=fun args hp K=>match args,hp with
  | [.str key,.str nonce,.str aad,.int most,.int long],[]=>K (.bool (decide (key.length=32∧nonce.length=12∧aad.length≤65536∧long≤most))) []
  |_,_=>False
theorem z8q:zp prog 167 z3j:=by
  refine zn x0 zl rfl func167 rfl call167 (D:=yar) ?_ ?_
  ·intro args hp K h
   unfold z3j at h
   split at h
   ·exact Nat.le_of_ble_eq_true rfl
   ·exact h.elim
  ·intro args hp K h
   unfold z3j at h
   split at h
   ·rename_i key nonce aad most long
    by_cases h1:key.length=32
    ·by_cases h2:nonce.length=12
     ·by_cases h3:aad.length≤65536
      ·by_cases h4:long≤most
       ·rw [decide_eq_true ⟨h1,h2,h3,h4⟩] at h
        have d4:decide (long≤most)=true:=decide_eq_true h4
        refine za ?_
        rw [d4]
        conv=>whnf
        exact zh [] h
       ·rw [decide_eq_false fun hh=>h4 hh.2.2.2] at h
        have d4:decide (long≤most)=false:=decide_eq_false h4
        refine za ?_
        rw [d4]
        conv=>whnf
        exact zh [] h
      ·rw [decide_eq_false fun hh=>h3 hh.2.2.1] at h
       refine za ?_
       exact zh [] h
     ·rw [decide_eq_false fun hh=>h2 hh.2.1] at h
      refine za ?_
      exact zh [] h
    ·rw [decide_eq_false fun hh=>h1 hh.1] at h
     refine za ?_
     exact zh [] h
   ·exact h.elim
end Go.Sym.Z

namespace Go.Sym.Z
open Go Go.Proofs.Tryz Go.Sym.Lp Go.Sym.Pol Go.Sym.Cha
set_option maxRecDepth 100000
attribute [local irreducible] yl xl blk
def za6 (key nonce aad s:List UInt8):List UInt8:=
  xl key nonce 1 s++yl key nonce aad (xl key nonce 1 s)
theorem zsd (key nonce aad b:List UInt8):(yl key nonce aad b).length=16:=by
  unfold yl
  exact zxw _ _
def zd1:Spec:=fun args hp K=>match args,hp with
  | [.str key,.str nonce,.str aad,.str s],[]=>Pre (s.length<9223372036854775808) <|
      if (key.length=32∧nonce.length=12∧aad.length≤65536∧(s.length:Int)-16≤65536)∧16≤s.length∧yl key nonce aad (s.take (s.length-16))=s.drop (s.length-16) then
       K (.tup [.str (xl key nonce 1 (s.take (s.length-16))),.int 0]) []
      else K (.tup [.str [],.int 700]) []
  |_,_=>False
theorem ztb:zp prog 150 zd1:=by
  refine zn x0 (zd z8q (zd zwa (zd z1d zl))) rfl func150 rfl call150 (D:=z9u) ?_ ?_
  ·intro args hp K h
   unfold zd1 at h
   split at h
   ·exact Nat.le_of_ble_eq_true rfl
   ·exact h.elim
  ·intro args hp K h
   unfold zd1 at h
   split at h
   ·rename_i key nonce aad s
    obtain ⟨hs63,h⟩:=zm h
    by_cases h0:key.length=32∧nonce.length=12∧aad.length≤65536∧(s.length:Int)-16≤65536
    ·have hd:=decide_eq_true h0
     by_cases h1:16≤s.length
     ·have hn:((s.length:Int)-16).toNat=s.length-16:=by omega
      have d1:decide ((s.length:Int)-16<0)=false:=decide_eq_false (by omega)
      obtain ⟨B,hB⟩: ∃B,B=s.take (s.length-16):=⟨_,rfl⟩
      have hBl:B.length=s.length-16:=by rw [hB,List.length_take];omega
      rw [←hB] at h
      repeat ((conv=>whnf);first|refine zo ?_|refine zf ?_|refine zg ?_|refine zb ?_|refine zr (by first|exact hd|(rw [hd];rfl)) ?_|refine zi (by first|exact hd|(rw [hd];rfl)) ?_|refine zj (by first|exact hd|(rw [hd];rfl)) ?_)
      conv=>whnf
      refine yh fun t1=>?_
      have hT:(List.take ((s.length:Int)-16).toNat s)=B:=by rw [hB,hn]
      have hTl:(List.take ((s.length:Int)-16).toNat s).length=s.length-16:=by rw [hT,hBl]
      have hp1:key.length=32∧nonce.length=12∧aad.length≤65536∧(List.take ((s.length:Int)-16).toNat s).length≤65536∧(List.take ((s.length:Int)-16).toNat s).length≤((List.take ((s.length:Int)-16).toNat s)++t1).length∧(List.take ((s.length:Int)-16).toNat s).length≤(List.take ((s.length:Int)-16).toNat s).length+t1.length:=⟨h0.1,h0.2.1,h0.2.2.1,by omega,by rw [List.length_append];omega,by omega⟩
      have hp2:key.length=32∧nonce.length=12∧(List.take ((s.length:Int)-16).toNat s).length≤((List.take ((s.length:Int)-16).toNat s)++t1).length∧(List.take ((s.length:Int)-16).toNat s).length≤(List.take ((s.length:Int)-16).toNat s).length+t1.length∧(List.take ((s.length:Int)-16).toNat s).length≤9223372036854775807:=⟨h0.1,h0.2.1,by rw [List.length_append];omega,by omega,by omega⟩
      refine za ?_
      have hTk:List.take (List.take ((s.length:Int)-16).toNat s).length ((List.take ((s.length:Int)-16).toNat s)++t1)=B:=by rw [List.take_left' rfl];exact hT
      by_cases hq:yl key nonce aad B=s.drop (s.length-16)
      ·rw [if_pos ⟨h0,h1,hq⟩] at h
       have hdq:decide (yl key nonce aad (List.take (List.take ((s.length:Int)-16).toNat s).length ((List.take ((s.length:Int)-16).toNat s)++t1))=List.drop ((s.length:Int)-16).toNat s)=true:=decide_eq_true (by rw [hTk,hn];exact hq)
       repeat ((conv=>whnf);first|refine zo ?_|refine zf ?_|refine zg ?_|refine zb ?_|refine zr (by first|exact hdq|(rw [hdq];rfl)) ?_|refine zi (by first|exact hdq|(rw [hdq];rfl)) ?_|refine zj (by first|exact hdq|(rw [hdq];rfl)) ?_)
       conv=>whnf
       have hX:(xl key nonce (UInt32.ofInt 1) (List.take (List.take ((s.length:Int)-16).toNat s).length ((List.take ((s.length:Int)-16).toNat s)++t1))++List.drop (List.take ((s.length:Int)-16).toNat s).length ((List.take ((s.length:Int)-16).toNat s)++t1))=xl key nonce 1 B++t1:=by rw [hTk,List.drop_left' rfl];rfl
       have hp3:off []+(List.take ((s.length:Int)-16).toNat s).length≤(xl key nonce (UInt32.ofInt 1) (List.take (List.take ((s.length:Int)-16).toNat s).length ((List.take ((s.length:Int)-16).toNat s)++t1))++List.drop (List.take ((s.length:Int)-16).toNat s).length ((List.take ((s.length:Int)-16).toNat s)++t1)).length:=by rw [hX,List.length_append,zfa,hBl,hTl];show 0+_≤_;omega
       have hF:List.take (List.take ((s.length:Int)-16).toNat s).length (List.drop (off []) (xl key nonce (UInt32.ofInt 1) (List.take (List.take ((s.length:Int)-16).toNat s).length ((List.take ((s.length:Int)-16).toNat s)++t1))++List.drop (List.take ((s.length:Int)-16).toNat s).length ((List.take ((s.length:Int)-16).toNat s)++t1)))=xl key nonce 1 B:=by
         rw [hX,hTl];show List.take _ (List.drop 0 _)=_;rw [List.drop_zero];exact List.take_left' (by rw [zfa,hBl])
       refine za ?_
       conv=>whnf
       refine yv (hp':= []) [] h ?_
       repeat ((conv=>whnf);refine zb ?_)
       conv=>whnf
       exact zx (congrArg (fun y=>SV.tup [SV.str y,SV.int 0]) hF)
      ·rw [if_neg fun hh=>hq hh.2.2] at h
       have hdq:decide (yl key nonce aad (List.take (List.take ((s.length:Int)-16).toNat s).length ((List.take ((s.length:Int)-16).toNat s)++t1))=List.drop ((s.length:Int)-16).toNat s)=false:=decide_eq_false (by rw [hTk,hn];exact hq)
       repeat ((conv=>whnf);first|refine zo ?_|refine zf ?_|refine zg ?_|refine zb ?_|refine zr (by first|exact hdq|(rw [hdq];rfl)) ?_|refine zi (by first|exact hdq|(rw [hdq];rfl)) ?_|refine zj (by first|exact hdq|(rw [hdq];rfl)) ?_)
       conv=>whnf
       exact zh [] h
     ·rw [if_neg fun hh=>h1 hh.2.1] at h
      repeat ((conv=>whnf);first|refine zo ?_|refine zf ?_|refine zg ?_|refine zb ?_|refine zr (by first|exact hd|(rw [hd];rfl)) ?_|refine zi (by first|exact hd|(rw [hd];rfl)) ?_|refine zj (by first|exact hd|(rw [hd];rfl)) ?_)
      conv=>whnf
      exact zh [] h
    ·rw [if_neg fun hh=>h0 hh.1] at h
     have hd:=decide_eq_false h0
     repeat ((conv=>whnf);first|refine zo ?_|refine zf ?_|refine zg ?_|refine zb ?_|refine zr (by first|exact hd|(rw [hd];rfl)) ?_|refine zi (by first|exact hd|(rw [hd];rfl)) ?_|refine zj (by first|exact hd|(rw [hd];rfl)) ?_)
     conv=>whnf
     exact zh [] h
   ·exact h.elim
end Go.Sym.Z

namespace Go.Sym.Z
open Go Go.Proofs.Tryz Go.Sym.Lp Go.Sym.Gcm Go.Sym.Aes Go.Sym.Pol Go.Sym.Cha
set_option maxRecDepth 100000
def yb2:List (Nat×List PStep):= []
def yci:List (Nat×List PStep):= []
def ybn:List (Nat×List PStep):= []
def yb3:List (Nat×List PStep):= []
attribute [local irreducible] za6 yl zg5 ze2 zeb xl
def zd5 (w:Int) (n:Nat):Prop:=w=4865∧n=16∨w=4866∧n=32∨w=4867∧n=32
instance (w:Int) (n:Nat):Decidable (zd5 w n):=by unfold zd5;exact inferInstance
def yx (w:Int) (key nonce aad s:List UInt8):List UInt8:=if w=4867 then za6 key nonce aad s else zg5 key nonce aad s
def xe (w:Int) (key nonce aad s:List UInt8):List UInt8:=if w=4867 then yl key nonce aad s else ze2 key nonce aad s
def yi (w:Int) (key nonce s:List UInt8):List UInt8:=if w=4867 then xl key nonce 1 s else zeb key nonce s
theorem xg (w:Int) (key nonce s:List UInt8):(yi w key nonce s).length=s.length:=by
  unfold yi;split
  ·exact zfa _ _ _ _
  ·exact zmj _ _ _
theorem za2 (w:Int) (key nonce aad s:List UInt8):(xe w key nonce aad s).length=16:=by
  unfold xe;split
  ·exact zsd _ _ _ _
  ·exact z1k _ _ _ _
theorem zb8 (w:Int) (key nonce aad s:List UInt8):yx w key nonce aad s=yi w key nonce s++xe w key nonce aad (yi w key nonce s):=by
  unfold yx yi xe
  split
  ·unfold za6;rfl
  ·unfold zg5;rfl
def zty:Spec:=fun args hp K=>match args,hp with
  | [.int w],[]=>zv (decide (w=4865)) (K (.tup [.int 16,.int 256,.int 0]) []) (zv (decide (w=4866)) (K (.tup [.int 32,.int 384,.int 0]) []) (zv (decide (w=4867)) (K (.tup [.int 32,.int 256,.int 0]) []) (K (.tup [.int 0,.int 0,.int 800]) [])))
  |_,_=>False
theorem zq7:zp prog 85 zty:=by
  refine zn xn zl rfl func85 rfl call85 (D:=yb2) ?_ ?_
  ·intro args hp K h
   unfold zty at h
   split at h
   ·exact Nat.le_of_ble_eq_true rfl
   ·exact h.elim
  ·intro args hp K h
   unfold zty at h
   split at h
   ·rename_i w
    obtain ⟨ht,hn⟩:=zt h
    by_cases h1:w=4865
    ·have h:=ht (decide_eq_true h1)
     refine za ?_
     exact zh [] h
    ·have h:=hn (decide_eq_false h1)
     obtain ⟨ht,hn⟩:=zt h
     by_cases h2:w=4866
     ·have h:=ht (decide_eq_true h2)
      refine za ?_
      exact zh [] h
     ·have h:=hn (decide_eq_false h2)
      obtain ⟨ht,hn⟩:=zt h
      by_cases h3:w=4867
      ·have h:=ht (decide_eq_true h3)
       refine za ?_
       exact zh [] h
      ·have h:=hn (decide_eq_false h3)
       refine za ?_
       exact zh [] h
   ·exact h.elim
def zv0:Spec:=fun args hp K=>match args,hp with
  | [.int e],[]=>K (.int e) []
  |_,_=>False
theorem zzi:zp prog 12 zv0:=by
  refine zn xn zl rfl func12 rfl call12 (D:=yb3) ?_ ?_
  ·intro args hp K h
   unfold zv0 at h
   split at h
   ·exact Nat.le_of_ble_eq_true rfl
   ·exact h.elim
  ·intro args hp K h
   unfold zv0 at h
   split at h
   ·rename_i e
    refine za ?_
    exact zh [] h
   ·exact h.elim
def zy1:Spec:=fun args hp K=>match args,hp with
  | [.int w,.str key,.str nonce,.str aad,.int long],[]=>K (.bool (decide (zd5 w key.length∧nonce.length=12∧aad.length≤65536∧long≤65536))) []
  |_,_=>False
set_option maxHeartbeats 4000000 in
theorem zud:zp prog 88 zy1:=by
  refine zn xn (zd zq7 zl) rfl func88 rfl call88 (D:=yci) ?_ ?_
  ·intro args hp K h
   unfold zy1 at h
   split at h
   ·exact Nat.le_of_ble_eq_true rfl
   ·exact h.elim
  ·intro args hp K h
   unfold zy1 at h
   split at h
   ·rename_i w key nonce aad long
    have four:w=4865∨w=4866∨w=4867∨(w≠4865∧w≠4866∧w≠4867):=by omega
    by_cases hk:zd5 w key.length
    ·have hk':=hk
     unfold zd5 at hk'
     by_cases h2:nonce.length=12
     ·by_cases h3:aad.length≤65536
      ·have hd:decide (zd5 w key.length∧nonce.length=12∧aad.length≤65536∧long≤65536)=decide (long≤65536):=by
         by_cases h4:long≤65536
         ·rw [decide_eq_true h4];exact decide_eq_true ⟨hk,h2,h3,h4⟩
         ·rw [decide_eq_false h4];exact decide_eq_false fun hh=>h4 hh.2.2.2
       rw [hd] at h
       rcases hk' with ⟨h0,h1⟩|⟨h0,h1⟩|⟨h0,h1⟩
       ·refine za ?_
        exact zh [] h
       ·refine za ?_
        exact zh [] h
       ·refine za ?_
        exact zh [] h
      ·rw [decide_eq_false fun hh=>h3 hh.2.2.1] at h
       rcases hk' with ⟨h0,h1⟩|⟨h0,h1⟩|⟨h0,h1⟩
       ·refine za ?_
        exact zh [] h
       ·refine za ?_
        exact zh [] h
       ·refine za ?_
        exact zh [] h
     ·rw [decide_eq_false fun hh=>h2 hh.2.1] at h
      rcases hk' with ⟨h0,h1⟩|⟨h0,h1⟩|⟨h0,h1⟩
      ·refine za ?_
       exact zh [] h
      ·refine za ?_
       exact zh [] h
      ·refine za ?_
       exact zh [] h
    ·rw [decide_eq_false fun hh=>hk hh.1] at h
     unfold zd5 at hk
     rcases four with h0|h0|h0|⟨h0,h1,h2⟩
     ·refine za ?_
      exact zh [] h
     ·refine za ?_
      exact zh [] h
     ·refine za ?_
      exact zh [] h
     ·refine za ?_
      exact zh [] h
   ·exact h.elim
theorem z13 {P:Program} {f:FuncId} {S S':Spec} (h:zp P f S) (hs: ∀args hp K,S' args hp K→S args hp K):zp P f S':=fun args hp K h1=>h args hp K (hs args hp K h1)
def ztn:Spec:=fun args hp K=>match args,hp with
  | [.str key,.str nonce,.str aad,.str s],[]=>Pre (key.length=32∧nonce.length=12∧aad.length≤65536∧(s.length:Int)-16≤65536)
      (zv (decide (16≤s.length∧yl key nonce aad (s.take (s.length-16))=s.drop (s.length-16))) (K (.tup [.str (xl key nonce 1 (s.take (s.length-16))),.int 0]) []) (K (.tup [.str [],.int 700]) []))
  |_,_=>False
def zs4:Spec:=fun args hp K=>match args,hp with
  | [.str key,.str nonce,.str aad,.str s],[]=>Pre ((key.length=16∨key.length=32)∧nonce.length=12∧aad.length≤65536∧(s.length:Int)-16≤65536)
      (zv (decide (16≤s.length∧ze2 key nonce aad (s.take (s.length-16))=s.drop (s.length-16))) (K (.tup [.str (zeb key nonce (s.take (s.length-16))),.int 0]) []) (K (.tup [.str [],.int 501]) []))
  |_,_=>False
theorem z3x: ∀args hp K,ztn args hp K→zd1 args hp K:=by
  intro args hp K h
  unfold ztn at h
  unfold zd1
  split at h
  ·obtain ⟨h0,h⟩:=zm h
   obtain ⟨ht,hn⟩:=zt h
   try dsimp only
   refine zr (by omega) ?_
   split
   ·rename_i hc;exact ht (decide_eq_true hc.2)
   ·rename_i hc;exact hn (decide_eq_false fun hh=>hc ⟨h0,hh⟩)
  ·exact h.elim
theorem z4c: ∀args hp K,zs4 args hp K→zlc args hp K:=by
  intro args hp K h
  unfold zs4 at h
  unfold zlc
  split at h
  ·obtain ⟨h0,h⟩:=zm h
   obtain ⟨ht,hn⟩:=zt h
   try dsimp only
   rw [if_pos ⟨h0.1,h0.2.1,h0.2.2.1,by omega⟩]
   split
   ·rename_i hc;exact ht (decide_eq_true hc)
   ·rename_i hc;exact hn (decide_eq_false hc)
  ·exact h.elim
theorem zzl:zp prog 150 ztn:=z13 ztb z3x
theorem z3q:zp prog 151 zs4:=z13 z35 z4c
def zta:Spec:=fun args hp K=>match args,hp with
  | [.int w,.str key,.str nonce,.str aad,.str s],[]=>Pre (s.length<9223372036854775808)
      (zv (decide (zd5 w key.length∧nonce.length=12∧aad.length≤65536∧(s.length:Int)-16≤65536))
        (zv (decide (16≤s.length∧xe w key nonce aad (s.take (s.length-16))=s.drop (s.length-16))) (K (.tup [.str (yi w key nonce (s.take (s.length-16))),.int 0]) []) (K (.tup [.str [],.int 801]) []))
        (K (.tup [.str [],.int 800]) []))
  |_,_=>False
end Go.Sym.Z

namespace Go.Sym.Z
open Go Go.Proofs.Tryz Go.Sym.Lp Go.Sym.Gcm Go.Sym.Aes Go.Sym.Pol Go.Sym.Cha
set_option maxRecDepth 100000
attribute [local irreducible] za6 yl zg5 ze2 zeb xl
set_option maxHeartbeats 4000000 in
theorem z4b:zp prog 121 zta:=by
  refine zn xn (zd zud (zd zzl (zd z3q zl))) rfl func121 rfl call121 (D:=ybn) ?_ ?_
  ·intro args hp K h
   unfold zta at h
   split at h
   ·exact Nat.le_of_ble_eq_true rfl
   ·exact h.elim
  ·intro args hp K h
   unfold zta at h
   split at h
   ·rename_i w key nonce aad s
    obtain ⟨hs63,h⟩:=zm h
    obtain ⟨ht0,hn0⟩:=zt h
    have four:w=4865∨w=4866∨w=4867∨(w≠4865∧w≠4866∧w≠4867):=by omega
    by_cases h0:zd5 w key.length∧nonce.length=12∧aad.length≤65536∧(s.length:Int)-16≤65536
    ·have h:=ht0 (decide_eq_true h0)
     have hd:=decide_eq_true h0
     obtain ⟨hk,h1,h2,h3⟩:=h0
     unfold zd5 at hk
     unfold xe yi at h
     by_cases h4:w=4867
     ·rw [if_pos h4,if_pos h4] at h
      obtain ⟨ht,hn⟩:=zt h
      have hpp:key.length=32∧nonce.length=12∧aad.length≤65536∧(s.length:Int)-16≤65536:=⟨by omega,h1,h2,h3⟩
      by_cases hq:16≤s.length∧yl key nonce aad (s.take (s.length-16))=s.drop (s.length-16)
      ·have h:=ht (decide_eq_true hq)
       have hdq:=decide_eq_true hq
       repeat ((conv=>whnf);first|refine zo ?_|refine zf ?_|refine zg ?_|refine zb ?_|refine zr (by first|exact hd|(rw [hd];rfl)|exact hdq) ?_|refine zi (by first|exact hd|(rw [hd];rfl)|exact hdq) ?_|refine zj (by first|exact hd|(rw [hd];rfl)|exact hdq) ?_)
       conv=>whnf
       exact zh [] h
      ·have h:=hn (decide_eq_false hq)
       have hdq:=decide_eq_false hq
       repeat ((conv=>whnf);first|refine zo ?_|refine zf ?_|refine zg ?_|refine zb ?_|refine zr (by first|exact hd|(rw [hd];rfl)|exact hdq) ?_|refine zi (by first|exact hd|(rw [hd];rfl)|exact hdq) ?_|refine zj (by first|exact hd|(rw [hd];rfl)|exact hdq) ?_)
       conv=>whnf
       exact zh [] h
     ·rw [if_neg h4,if_neg h4] at h
      obtain ⟨ht,hn⟩:=zt h
      have hpp:(key.length=16∨key.length=32)∧nonce.length=12∧aad.length≤65536∧(s.length:Int)-16≤65536:=⟨by omega,h1,h2,h3⟩
      by_cases hq:16≤s.length∧ze2 key nonce aad (s.take (s.length-16))=s.drop (s.length-16)
      ·have h:=ht (decide_eq_true hq)
       have hdq:=decide_eq_true hq
       repeat ((conv=>whnf);first|refine zo ?_|refine zf ?_|refine zg ?_|refine zb ?_|refine zr (by first|exact hd|(rw [hd];rfl)|exact hdq) ?_|refine zi (by first|exact hd|(rw [hd];rfl)|exact hdq) ?_|refine zj (by first|exact hd|(rw [hd];rfl)|exact hdq) ?_)
       conv=>whnf
       exact zh [] h
      ·have h:=hn (decide_eq_false hq)
       have hdq:=decide_eq_false hq
       repeat ((conv=>whnf);first|refine zo ?_|refine zf ?_|refine zg ?_|refine zb ?_|refine zr (by first|exact hd|(rw [hd];rfl)|exact hdq) ?_|refine zi (by first|exact hd|(rw [hd];rfl)|exact hdq) ?_|refine zj (by first|exact hd|(rw [hd];rfl)|exact hdq) ?_)
       conv=>whnf
       exact zh [] h
    ·have h:=hn0 (decide_eq_false h0)
     have hd:=decide_eq_false h0
     repeat ((conv=>whnf);first|refine zo ?_|refine zf ?_|refine zg ?_|refine zb ?_|refine zr (by first|exact hd|(rw [hd];rfl)) ?_|refine zi (by first|exact hd|(rw [hd];rfl)) ?_|refine zj (by first|exact hd|(rw [hd];rfl)) ?_)
     conv=>whnf
     exact zh [] h
   ·exact h.elim
end Go.Sym.Z

namespace Go.Sym.Z
open Go Go.Proofs.Tryz Go.Sym.Lp Go.Sym.Gcm Go.Sym.Aes Go.Sym.Pol Go.Sym.Cha
set_option maxRecDepth 100000
attribute [local irreducible] za6 yl zg5 ze2 zeb xl
def yat:List (Nat×List PStep):= [(1,[⟨0,[]⟩,⟨1,[]⟩,⟨3,[0,1]⟩,⟨4,[0,1]⟩,⟨2,[3,4]⟩,⟨5,[]⟩,⟨6,[]⟩])]
def ybc:List (Nat×List PStep):= [(2,[⟨0,[]⟩,⟨1,[]⟩,⟨2,[0,1]⟩,⟨3,[0,1,2]⟩,⟨4,[0,1]⟩,⟨5,[]⟩])]
def yb6:List (Nat×List PStep):= []
def yda:List (Nat×List PStep):= []
def ydk:List (Nat×List PStep):= []
def z8a:List (Nat×TyI):= [(3,ty3),(4,ty4),(5,ty5),(9,ty9),(48,zcp),(51,zco),(168,zc9),(113,x4),(99,x3),(183,zbo),(186,zez),(134,zeq),(178,zd4),(216,zdz),(214,zd3),(212,zdn),(132,ze7),(136,zfn)]
theorem zax: ∀t i,y3 z8a t=some i→yp prog t i:=(zc ty3_ok (zc zbm (zc zbe (zc ty9_ok (zc zak (zc zam (zc zh9 (zc zai (zc za7 (zc zsk (zc zro (zc zrn (zc zll (zc zk7 (zc zmi (zc zmp (zc z1h (zc z0n x1))))))))))))))))))
def zbb (l:List UInt8) (a na b nb:Nat) (s:List UInt8):List UInt8:=zw (zw l a (s.take na)) b ((s.drop na).take nb)
def zhj:Spec:=fun args hp K=>match args,hp with
  | [.int w,.str key,.str nonce],[]=>zv (decide (w=4867)) (K (.agg [.str key,.str nonce,.nilptr]) [])
      (Pre (key.length=16∨key.length=32) (K (.agg [.str key,.str nonce,.ptr 0 0 0 []]) [.mk 186 [.ptr 1 0 0 [],.u64 (gH (gW key) (gR key)).1,.u64 (gH (gW key) (gR key)).2],.mk 216 [.arr8 256 box,.sl 2 0 0 [] (gR key) (gR key)],.mk 168 [.arr8 (16*gR key) (gW key)]]))
  |_,_=>False
theorem zj2:zp prog 90 zhj:=by
  refine zn zax (zd zst zl) rfl func90 rfl call90 (D:=yb6) ?_ ?_
  ·intro args hp K h
   unfold zhj at h
   split at h
   ·exact Nat.le_of_ble_eq_true rfl
   ·exact h.elim
  ·intro args hp K h
   unfold zhj at h
   split at h
   ·rename_i w key nonce
    obtain ⟨ht,hn⟩:=zt h
    by_cases h0:w=4867
    ·have h:=ht (decide_eq_true h0)
     refine za ?_
     exact zh [] h
    ·have h:=hn (decide_eq_false h0)
     obtain ⟨hk,h⟩:=zm h
     have hd:=decide_eq_true hk
     repeat ((conv=>whnf);first|refine zo ?_|refine zf ?_|refine zg ?_|refine zb ?_|refine zr (by first|exact hd) ?_|refine zi (by first|exact hd) ?_|refine zj (by first|exact hd) ?_)
     conv=>whnf
     exact zh [2,3,4] h
   ·exact h.elim
def z2n:Spec:=fun args hp K=>match args,hp with
  | [.agg [.str key,.str nonce,.nilptr],.str aad,.sl 0 0 0 [] n c],[.mk t [.arr8 m l]]=>Pre (key.length=32∧nonce.length=12∧aad.length≤65536∧n≤65536∧n≤l.length∧n≤c) (K (.str (yl key nonce aad (l.take n))) [.mk t [.arr8 m l]])
  | [.agg [.str key,.str nonce,.ptr 0 0 0 []],.str aad,.sl 3 0 0 [] n c],[.mk t0 [.ptr 1 0 0 [],.u64 h1,.u64 h2],.mk t1 [.arr8 256 bx,.sl 2 0 0 [] R cR],.mk t2 [.arr8 N W],.mk t [.arr8 m l]]=>
      Pre (bx=box∧nonce.length=12∧1≤R∧R≤100∧16*R≤W.length∧n≤l.length∧n≤c∧aad.length≤65536∧n≤70000)
      (K (.str (gtg W R (h1,h2) nonce aad (l.take n))) [.mk t0 [.ptr 1 0 0 [],.u64 h1,.u64 h2],.mk t1 [.arr8 256 bx,.sl 2 0 0 [] R cR],.mk t2 [.arr8 N W],.mk t [.arr8 m l]])
  |_,_=>False
theorem zze:zp prog 92 z2n:=by
  refine zn zax (zd z1d (zd z2g zl)) rfl func92 rfl call92 (D:=yda) ?_ ?_
  ·intro args hp K h
   unfold z2n at h
   split at h
   ·exact Nat.le_of_ble_eq_true rfl
   ·exact Nat.le_of_ble_eq_true rfl
   ·exact h.elim
  ·intro args hp K h
   unfold z2n at h
   split at h
   ·obtain ⟨hp,h⟩:=zm h
    refine za ?_
    exact zh [0] h
   ·obtain ⟨hp,h⟩:=zm h
    refine za ?_
    exact zh [0,1,2,3] h
   ·exact h.elim
def z1s:Spec:=fun args hp K=>match args,hp with
  | [.agg [.str key,.str nonce,.nilptr],.sl 0 0 0 [] n cap],[.mk t [.arr8 m l]]=>Pre (key.length=32∧nonce.length=12∧n≤l.length∧n≤cap∧n≤9223372036854775807)
      (K (.tup []) [.mk t [.arr8 m (xl key nonce (UInt32.ofInt 1) (l.take n)++l.drop n)]])
  | [.agg [.str key,.str nonce,.ptr 0 0 0 []],.sl 3 0 0 [] n cap],[.mk t0 [.ptr 1 0 0 [],.u64 h1,.u64 h2],.mk t1 [.arr8 256 bx,.sl 2 0 0 [] R c],.mk t2 [.arr8 N W],.mk t [.arr8 m l]]=>
      Pre (bx=box∧nonce.length=12∧1≤R∧R≤100∧16*R≤W.length∧n≤l.length∧n≤cap∧n≤9223372036854775807)
      (K (.tup []) [.mk t0 [.ptr 1 0 0 [],.u64 h1,.u64 h2],.mk t1 [.arr8 256 bx,.sl 2 0 0 [] R c],.mk t2 [.arr8 N W],.mk t [.arr8 m (gst W R nonce 2 (l.take n)++l.drop n)]])
  |_,_=>False
theorem z2o:zp prog 91 z1s:=by
  refine zn zax (zd zwa (zd z04 zl)) rfl func91 rfl call91 (D:=ydk) ?_ ?_
  ·intro args hp K h
   unfold z1s at h
   split at h
   ·exact Nat.le_of_ble_eq_true rfl
   ·exact Nat.le_of_ble_eq_true rfl
   ·exact h.elim
  ·intro args hp K h
   unfold z1s at h
   split at h
   ·obtain ⟨hp,h⟩:=zm h
    refine za ?_
    exact zh [0] h
   ·obtain ⟨hp,h⟩:=zm h
    refine za ?_
    exact zh [0,1,2,3] h
   ·exact h.elim
end Go.Sym.Z

namespace Go.Sym.Z
open Go Go.Proofs.Tryz Go.Sym.Lp Go.Sym.Gcm Go.Sym.Aes Go.Sym.Pol Go.Sym.Cha
set_option maxRecDepth 100000
attribute [local irreducible] za6 yl zg5 ze2 zeb xl zbb xe yi gst gtg gW gR gH
def ya9:List (Nat×List PStep):= [(9,[⟨0,[]⟩,⟨1,[0]⟩,⟨2,[0,1]⟩,⟨3,[0,1,2]⟩,⟨4,[0,1]⟩,⟨6,[0,1,2,3,4]⟩,⟨7,[0,1,2,3,4,6]⟩,⟨8,[0,1,2,3,4]⟩,⟨9,[0,1,2,3,4]⟩,⟨5,[6,7,8,9]⟩,⟨10,[]⟩]),(11,[⟨0,[]⟩,⟨1,[0]⟩,⟨2,[0,1]⟩,⟨3,[0]⟩,⟨4,[]⟩])]
def ycu:List (Nat×List PStep):= [(7,[⟨0,[]⟩,⟨1,[0]⟩,⟨2,[0,1]⟩,⟨3,[0]⟩,⟨4,[]⟩]),(8,[⟨0,[]⟩,⟨1,[0]⟩,⟨2,[]⟩,⟨3,[0,1,2]⟩,⟨4,[0,1,2,3]⟩,⟨5,[0,1,2,3,4]⟩,⟨6,[0,1,2,3,4,5]⟩,⟨7,[0,1,2,3,4]⟩,⟨8,[0,1,2]⟩,⟨9,[]⟩])]
def two (l:List UInt8) (a na b nb:Nat):List UInt8:=(l.drop a).take na++(l.drop b).take nb
def zj8 (w:Int) (key nonce aad:List UInt8) (long:Int):Prop:=zd5 w key.length∧nonce.length=12∧aad.length≤65536∧long≤65536
instance (w:Int) (key nonce aad:List UInt8) (long:Int):Decidable (zj8 w key nonce aad long):=by unfold zj8;exact inferInstance
theorem zss {l s x:List UInt8} {a na b nb:Nat} (h:s.length=na+nb):zbb l a na b nb (s++x)=zbb l a na b nb s:=by
  unfold zbb
  rw [List.take_append_of_le_length (by omega),List.drop_append_of_le_length (by omega),List.take_append_of_le_length (by rw [List.length_drop];omega)]
end Go.Sym.Z

namespace Go.Sym.Z
open Go Go.Proofs.Tryz Go.Sym.Lp Go.Sym.Gcm Go.Sym.Aes Go.Sym.Pol Go.Sym.Cha
set_option maxRecDepth 100000
attribute [local irreducible] za6 yl zg5 ze2 zeb xl zbb xe yi gst gtg gW gR gH yx
end Go.Sym.Z

namespace Go.Sym.Z
open Go Go.Proofs.Tryz Go.Sym.Lp Go.Sym.Cha Go.Sym.Sha Go.Sym.Hk
set_option maxRecDepth 100000
attribute [local irreducible] zab exF
def z99:List (Nat×List PStep):= []
def ydi:List (Nat×List PStep):= []
def ydc:List (Nat×List PStep):= []
def ycl:List (Nat×List PStep):= []
def yc9:List (Nat×List PStep):= [(5,[⟨0,[]⟩,⟨1,[0]⟩,⟨2,[0]⟩,⟨3,[0]⟩,⟨4,[0,1,2,3]⟩,⟨5,[0]⟩,⟨6,[]⟩,⟨7,[]⟩,⟨8,[0,1,2,3,4,5,6,7]⟩,⟨9,[0,1,2,3,4,5,6,7]⟩,⟨10,[0,1,2,3,4,5,6,7]⟩,⟨11,[0,1,2,3,4,5,6,7]⟩,⟨12,[0,1,2,3,4,5,6,7,8,9,10,11]⟩,⟨13,[0,1,2,3,4,5,6,7,8,9,10,11]⟩,⟨14,[0,1,2,3,4,5,6,7]⟩,⟨15,[0,1,2,3,4,5,6,7]⟩,⟨16,[]⟩,⟨17,[]⟩,⟨18,[]⟩])]
def ydf:List (Nat×List PStep):= []
def yau:List (Nat×TyI):= [(3,ty3),(4,ty4),(5,ty5),(9,ty9),(48,zcp),(51,zco),(113,x4),(99,x3),(103,zck),(68,zgw),(70,zg0),(104,zcj),(74,zi4),(23,zjr),(43,zgz)]
theorem yw: ∀t i,y3 yau t=some i→yp prog t i:=(zc ty3_ok (zc zbm (zc zbe (zc ty9_ok (zc zak (zc zam (zc zai (zc za7 (zc zdq (zc zgq (zc zgn (zc zds (zc zqy (zc zp5 (zc zgo x1)))))))))))))))
def su (w:Int):Prop:=w=4865∨w=4866∨w=4867
instance (w:Int):Decidable (su w):=by unfold su;exact inferInstance
def hB (w:Int):Int:=if w=4866 then 384 else 256
theorem z2u (w:Int):hB w=256∨hB w=384:=by unfold hB;split<;>simp
def zyx:Spec:=fun args hp K=>match args,hp with
  | [.int w],[]=>zv (decide (su w)) (K (.tup [.int (hB w),.int 0]) []) (K (.tup [.int 0,.int 1900]) [])
  |_,_=>False
theorem z3y:zp prog 113 zyx:=by
  refine zn yw (zd zq7 zl) rfl func113 rfl call113 (D:=z99) ?_ ?_
  ·intro args hp K h
   unfold zyx at h
   split at h
   ·exact Nat.le_of_ble_eq_true rfl
   ·exact h.elim
  ·intro args hp K h
   unfold zyx at h
   split at h
   ·rename_i w
    obtain ⟨ht,hf⟩:=zt h
    have four:w=4865∨w=4866∨w=4867∨(w≠4865∧w≠4866∧w≠4867):=by omega
    rcases four with h0|h0|h0|⟨h0,h1,h2⟩
    ·have h:=ht (decide_eq_true (.inl h0))
     rw [show hB w=256 by unfold hB;rw [if_neg (by omega)]] at h
     refine za ?_
     exact zh [] h
    ·have h:=ht (decide_eq_true (.inr (.inl h0)))
     rw [show hB w=384 by unfold hB;rw [if_pos h0]] at h
     refine za ?_
     exact zh [] h
    ·have h:=ht (decide_eq_true (.inr (.inr h0)))
     rw [show hB w=256 by unfold hB;rw [if_neg (by omega)]] at h
     refine za ?_
     exact zh [] h
    ·have h:=hf (decide_eq_false (by unfold su;omega))
     refine za ?_
     exact zh [] h
   ·exact h.elim
def zpj:Spec:=fun args hp K=>match args,hp with
  | [.int w,.str key,.str label,.str ctx,.int size],[]=>Pre (key.length≤140737488351232∧label.length≤100∧ctx.length≤255∧0≤size∧size≤1000)
      (zv (decide (su w)) (K (.tup [.str (zab (hB w) key label ctx size.toNat),.int 0]) []) (K (.tup [.str [],.int 1900]) []))
  |_,_=>False
theorem zy0:zp prog 86 zpj:=by
  refine zn yw (zd z3y (zd z4y zl)) rfl func86 rfl call86 (D:=ydi) ?_ ?_
  ·intro args hp K h
   unfold zpj at h
   split at h
   ·exact Nat.le_of_ble_eq_true rfl
   ·exact h.elim
  ·intro args hp K h
   unfold zpj at h
   split at h
   ·rename_i w key label ctx size
    obtain ⟨⟨hk,hl,hc,hs0,hs⟩,h⟩:=zm h
    obtain ⟨ht,hf⟩:=zt h
    have hp:(hB w=256∨hB w=384)∧key.length≤140737488351232∧label.length≤100∧ctx.length≤255∧0≤size∧size≤1000:=⟨z2u w,hk,hl,hc,hs0,hs⟩
    generalize e:decide (su w)=c at ht hf
    cases c
    ·have h:=hf rfl
     refine za ?_
     exact zh [] h
    ·have h:=ht rfl
     refine za ?_
     exact zh [] h
   ·exact h.elim
def aSz (w:Int):Nat:=if w=4865 then 16 else 32
def kyF (w:Int) (s:List UInt8):List UInt8:=zab (hB w) s [107,101,121] [] (aSz w)
def ivF (w:Int) (s:List UInt8):List UInt8:=zab (hB w) s [105,118] [] 12
theorem z6a (w:Int) (s:List UInt8):(kyF w s).length=aSz w:=zrc (z2u w) _ _ _ _
theorem z4e (w:Int) (s:List UInt8):(ivF w s).length=12:=zrc (z2u w) _ _ _ _
def z06:Spec:=fun args hp K=>match args,hp with
  | [.int w,.str s],[]=>Pre (s.length≤140737488351232)
      (zv (decide (su w)) (K (.tup [.str (kyF w s),.str (ivF w s),.int 0]) []) (K (.tup [.str [],.str [],.int 1900]) []))
  |_,_=>False
theorem z8t:zp prog 62 z06:=by
  refine zn yw (zd zq7 (zd zy0 zl)) rfl func62 rfl call62 (D:=ydc) ?_ ?_
  ·intro args hp K h
   unfold z06 at h
   split at h
   ·exact Nat.le_of_ble_eq_true rfl
   ·exact h.elim
  ·intro args hp K h
   unfold z06 at h
   split at h
   ·rename_i w s
    obtain ⟨hs,h⟩:=zm h
    obtain ⟨ht,hf⟩:=zt h
    have four:w=4865∨w=4866∨w=4867∨(w≠4865∧w≠4866∧w≠4867):=by omega
    rcases four with h0|h0|h0|⟨h0,h1,h2⟩
    ·have hd:decide (su w)=true:=decide_eq_true (.inl h0)
     have h:=ht hd
     rw [show kyF w s=zab (hB w) s [107,101,121] [] (Int.toNat 16) by unfold kyF aSz;rw [if_pos h0];rfl,show ivF w s=zab (hB w) s [105,118] [] (Int.toNat 12) by unfold ivF;rfl] at h
     refine za ?_
     exact zh [] h
    ·have hd:decide (su w)=true:=decide_eq_true (.inr (.inl h0))
     have h:=ht hd
     rw [show kyF w s=zab (hB w) s [107,101,121] [] (Int.toNat 32) by unfold kyF aSz;rw [if_neg (by omega)];rfl,show ivF w s=zab (hB w) s [105,118] [] (Int.toNat 12) by unfold ivF;rfl] at h
     refine za ?_
     exact zh [] h
    ·have hd:decide (su w)=true:=decide_eq_true (.inr (.inr h0))
     have h:=ht hd
     rw [show kyF w s=zab (hB w) s [107,101,121] [] (Int.toNat 32) by unfold kyF aSz;rw [if_neg (by omega)];rfl,show ivF w s=zab (hB w) s [105,118] [] (Int.toNat 12) by unfold ivF;rfl] at h
     refine za ?_
     exact zh [] h
    ·have hd:decide (su w)=false:=decide_eq_false (by unfold su;omega)
     have h:=hf hd
     refine za ?_
     exact zh [] h
   ·exact h.elim
attribute [local irreducible] kyF ivF
def zk8:Spec:=fun args hp K=>match args,hp with
  | [.int w,.str s],[]=>Pre (s.length≤140737488351232)
      (zv (decide (su w)) (K (.tup [.ptr 0 0 0 [],.int 0]) [.mk 103 [.int w,.str (kyF w s),.str (ivF w s),.int 0]]) (K (.tup [.nilptr,.int 2100]) []))
  |_,_=>False
theorem zgk:zp prog 42 zk8:=by
  refine zn yw (zd z8t zl) rfl func42 rfl call42 (D:=ycl) ?_ ?_
  ·intro args hp K h
   unfold zk8 at h
   split at h
   ·exact Nat.le_of_ble_eq_true rfl
   ·exact h.elim
  ·intro args hp K h
   unfold zk8 at h
   split at h
   ·rename_i w s
    obtain ⟨hs,h⟩:=zm h
    obtain ⟨ht,hf⟩:=zt h
    generalize e:decide (su w)=c at ht hf
    cases c
    ·have h:=hf rfl
     refine za ?_
     exact zh [] h
    ·have h:=ht rfl
     refine za ?_
     exact zh [0] h
   ·exact h.elim
def yu (k:Int):Prop:=k=20∨k=21∨k=22∨k=23
instance (k:Int):Decidable (yu k):=by unfold yu;exact inferInstance
def ztr:Spec:=fun args hp K=>match args,hp with
  | [.int k],[]=>K (.bool (decide (yu k))) []
  |_,_=>False
theorem zo0:zp prog 63 ztr:=by
  refine zn yw zl rfl func63 rfl call63 (D:=ydf) ?_ ?_
  ·intro args hp K h
   unfold ztr at h
   split at h
   ·exact Nat.le_of_ble_eq_true rfl
   ·exact h.elim
  ·intro args hp K h
   unfold ztr at h
   split at h
   ·rename_i k
    have z9m:k=20∨k=21∨k=22∨k=23∨(k≠20∧k≠21∧k≠22∧k≠23):=by omega
    rcases z9m with h0|h0|h0|h0|⟨h0,h1,h2,h3⟩
    ·rw [decide_eq_true (show yu k by unfold yu;omega)] at h
     refine za ?_
     exact zh [] h
    ·rw [decide_eq_true (show yu k by unfold yu;omega)] at h
     refine za ?_
     exact zh [] h
    ·rw [decide_eq_true (show yu k by unfold yu;omega)] at h
     refine za ?_
     exact zh [] h
    ·rw [decide_eq_true (show yu k by unfold yu;omega)] at h
     refine za ?_
     exact zh [] h
    ·rw [decide_eq_false (show ¬yu k by unfold yu;omega)] at h
     refine za ?_
     exact zh [] h
   ·exact h.elim
def zmf (iv:List UInt8) (many:Int):Nat→List UInt8
  |0=>iv
  |i+1=>(zmf iv many i).set (12-1-i) ((zmf iv many i).getD (12-1-i) 0^^^UInt8.ofInt (many/ 2^(8*i)))
theorem zhr (iv:List UInt8) (many:Int): ∀i,(zmf iv many i).length=iv.length
  |0=>rfl
  |i+1=>by simp only [zmf,List.length_set];exact zhr iv many i
def ncF (iv:List UInt8) (many:Int):List UInt8:=zmf iv many 8
theorem zh4 (iv:List UInt8) (many:Int):(ncF iv many).length=iv.length:=zhr _ _ _
def zs7:Spec:=fun args hp K=>match args,hp with
  | [.ptr 0 0 0 []],[.mk t [.int w,.str key,.str iv,.int many]]=>Pre (iv.length=12) (K (.str (ncF iv many)) [.mk t [.int w,.str key,.str iv,.int many]])
  |_,_=>False
theorem zks:zp prog 67 zs7:=by
  refine zn yw zl rfl func67 rfl call67 (D:=yc9) ?_ ?_
  ·intro args hp K h
   unfold zs7 at h
   split at h
   ·exact Nat.le_of_ble_eq_true rfl
   ·exact h.elim
  ·intro args hp K h
   unfold zs7 at h
   split at h
   ·rename_i t w key iv many
    obtain ⟨hiv,h⟩:=zm h
    refine za ?_
    refine yh fun tl=>?_
    refine za ?_
    refine zz (Ix (8)) (fun q=>⟨[(3,.sl 1 0 0 [] iv.length (iv.length+tl.length)),(10,.int q.i),(0,.ptr 0 0 0 [])],[.mk t [.int w,.str key,.str iv,.int many],.mk 5 [.arr8 (iv.length+tl.length) (zmf iv many q.i++tl)]]⟩) (fun q=>(8)-q.i) ⟨0,Nat.zero_le _⟩ [0,1] ?_ ?_
    ·exact zu
    ·intro q
     have hi:=q.hi
     have hl:=zhr iv many q.i
     rw [hiv] at hl
     have hla:(zmf iv many q.i++tl).length=12+tl.length:=by rw [List.length_append,hl]
     have hof:off (yb [] ((iv.length:Int)-1-(q.i:Int)).toNat ty5.sz)=12-1-q.i:=by rw [zy];show 0+((iv.length:Int)-1-(q.i:Int)).toNat*1=_;omega
     have hk:(8*(q.i:Int)).toNat=8*q.i:=by omega
     by_cases h4:q.i<8
     ·refine za ?_
      refine ⟨⟨q.i+1,h4⟩,[0,1],by show (8)-(q.i+1)<(8)-q.i;omega,?_⟩
      repeat ((conv=>whnf);refine zb ?_)
      conv=>whnf
      exact zx (congrArg (fun x=>SV.agg [SV.arr8 (iv.length+tl.length) x]) (show _=zmf iv many (q.i+1)++tl by simp only [zmf];rw [hof,hk,List.set_append_left _ _ (by omega),List.getD_eq_getElem?_getD,List.getElem?_append_left (by omega),←List.getD_eq_getElem?_getD]))
     ·have e4:q.i=8:=by omega
      have hF:List.take iv.length (List.drop (off []) (zmf iv many 8++tl))=ncF iv many:=List.take_left' (zhr iv many 8)
      rw [e4] at hla
      have hpo:off []+iv.length≤(zmf iv many 8++tl).length:=by rw [hla,hiv];show 0+12≤_;omega
      rw [e4]
      refine za ?_
      rw [hF]
      conv=>whnf
      exact zh [0] h
   ·exact h.elim
end Go.Sym.Z

namespace Go.Sym.Z
open Go Go.Proofs.Tryz Go.Sym.Lp Go.Sym.Aes
set_option maxRecDepth 100000
attribute [local irreducible] box tw rc ks
structure Wx (n:Nat) where
  i:Nat
  hi:i≤n
  t:Tl UInt8 4
structure Wz (n m:Nat) where
  i:Nat
  h1:n≤i
  h2:i≤m
  t:Tl UInt8 4
end Go.Sym.Z

namespace Go.Sym.Z
open Go Go.Proofs.Tryz Go.Sym.Lp Go.Sym.Aes
set_option maxRecDepth 100000
attribute [local irreducible] box tw zce zm0
end Go.Sym.Z

namespace Go.Sym.Z
open Go Go.Proofs.Tryz Go.Sym.Lp Go.Sym.Gcm Go.Sym.Aes
set_option maxRecDepth 100000
attribute [local irreducible] ldE ld y8 hf4 ze3 enc ks box ztg wr
end Go.Sym.Z

namespace Go.Sym.Z
open Go Go.Proofs.Tryz Go.Sym.Lp Go.Sym.Cha
set_option maxRecDepth 100000
attribute [local irreducible] qr wd zir blk beg zx9
end Go.Sym.Z

namespace Go.Sym.Pol
open Go.Sym.Lp
end Go.Sym.Pol
namespace Go.Sym.Pol
open Go.Sym.Lp
end Go.Sym.Pol
namespace Go.Sym.Pol
end Go.Sym.Pol

namespace Go.Sym.Z
open Go Go.Proofs.Tryz Go.Sym.Lp Go.Sym.Pol Go.Sym.Cha
set_option maxRecDepth 100000
attribute [local irreducible] yl xl blk zdo
def lit (n:Int) (i:Nat):UInt8:=UInt8.ofInt (zbg BinOp.and (n/ 2^(8*(i:Int)).toNat) 255)
end Go.Sym.Z

namespace Go.Sym.Gcm
open Go.Sym Go.Sym.Lp Go.Sym.Aes
end Go.Sym.Gcm

namespace Go.Sym.Z
open Go Go.Proofs.Tryz Go.Sym.Lp Go.Sym.Gcm Go.Sym.Aes Go.Sym.Pol
set_option maxRecDepth 100000
attribute [local irreducible] Go.Sym.Gcm.ld y8 hf4 ze3 enc ks box ztg wr gst zne zc6
end Go.Sym.Z

namespace Go.Sym.Z
open Go Go.Proofs.Tryz Go.Sym.Lp Go.Sym.Gcm Go.Sym.Aes
set_option maxRecDepth 100000
attribute [local irreducible] gst gtg gH enc ks box
end Go.Sym.Z

namespace Go.Sym.Z
open Go Go.Proofs.Tryz Go.Sym.Lp Go.Sym.Pol Go.Sym.Cha
set_option maxRecDepth 100000
attribute [local irreducible] yl xl blk zdo
end Go.Sym.Z

namespace Go.Sym.Pol
end Go.Sym.Pol
namespace Go.Sym.Pol
end Go.Sym.Pol

namespace Go.Sym.Z
open Go Go.Proofs.Tryz Go.Sym.Lp Go.Sym.Pol Go.Sym.Cha
set_option maxRecDepth 100000
attribute [local irreducible] yl xl blk zdo
end Go.Sym.Z

namespace Go.Sym.Z
open Go Go.Proofs.Tryz Go.Sym.Lp Go.Sym.Pol Go.Sym.Cha
set_option maxRecDepth 100000
attribute [local irreducible] xl blk zc6 zhv
end Go.Sym.Z

namespace Go.Sym.Pol
open Go.Sym.Lp
end Go.Sym.Pol
namespace Go.Sym.Pol
end Go.Sym.Pol
namespace Go.Sym.Pol
end Go.Sym.Pol

namespace Go.Sym.Pol
open Go.Sym.Lp
end Go.Sym.Pol

namespace Go.Sym.Pol
open Go.Sym.Lp
end Go.Sym.Pol

namespace Go.Sym.Pol
open Go.Sym.Lp
def w3:List UInt64→Nat
  | [a,b,c]=>a.toNat+18446744073709551616*b.toNat+340282366920938463463374607431768211456*c.toNat
  |_=>0
end Go.Sym.Pol

namespace Go.Sym.Pol
open Go.Sym.Lp
end Go.Sym.Pol

namespace Go.Sym.Pol
open Go.Sym.Lp
end Go.Sym.Pol

namespace Go.Sym.Pol
open Go.Sym.Lp
end Go.Sym.Pol

namespace Go.Sym.Pol
open Go.Sym.Lp
end Go.Sym.Pol

namespace Go.Sym.Pol
open Go.Sym.Lp
end Go.Sym.Pol

namespace Go.Sym.Pol
open Go.Sym.Lp
end Go.Sym.Pol

namespace Go.Sym.Pol
open Go.Sym.Lp
end Go.Sym.Pol

namespace Go.Sym.Pol
open Go.Sym.Lp
end Go.Sym.Pol

namespace Go.Sym.Z
open Go Go.Proofs.Tryz Go.Sym.Lp Go.Sym.Gcm Go.Sym.Aes Go.Sym.Pol Go.Sym.Cha
set_option maxRecDepth 100000
attribute [local irreducible] za6 yl zg5 ze2 zeb xl
end Go.Sym.Z

namespace Go.Sym.Z
open Go Go.Proofs.Tryz Go.Sym.Lp Go.Sym.Cha Go.Sym.Sha Go.Sym.Hk Go.Sym.Gcm
set_option maxRecDepth 100000
attribute [local irreducible] zyd zaj
attribute [local irreducible] exF
attribute [local irreducible] zab
attribute [local irreducible] kyF ivF
end Go.Sym.Z
