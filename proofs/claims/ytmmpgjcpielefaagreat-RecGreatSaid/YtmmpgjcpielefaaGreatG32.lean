/-
  Contracts of functions of the program, each said of symbolic values, and plain laws; no condition beyond each statement's own.
-/
import Derived.Test.YtmmpgjcpielefaaGreatG31
set_option linter.unusedSimpArgs false
set_option linter.unusedVariables false
namespace Go.Sym.Z
open Go Go.Proofs.Tryz Go.Sym.Lp Go.Sym.Gcm Go.Sym.Aes Go.Sym.Pol Go.Sym.Cha
set_option maxRecDepth 100000
attribute [local irreducible] zav yt zg4 zg5 ze1 xl
set_option maxHeartbeats 4000000 in
theorem z87:zm prog 121 zvv:=by
  refine zk yz (zc z6l (zc z4c (zc z5p zg))) rfl func121 rfl call121 (D:=yeb) ?_ ?_
  ·intro args hp K h
   unfold zvv at h
   split at h
   ·exact Nat.le_of_ble_eq_true rfl
   ·exact h.elim
  ·intro args hp K h
   unfold zvv at h
   split at h
   ·rename_i w key nonce aad s
    obtain ⟨hs63,h⟩:=zl h
    obtain ⟨ht0,hn0⟩:=zy h
    have four:w=4865∨w=4866∨w=4867∨(w≠4865∧w≠4866∧w≠4867):=by omega
    by_cases h0:zeg w key.length∧nonce.length=12∧aad.length≤65536∧(s.length:Int)-16≤65536
    ·have h:=ht0 (decide_eq_true h0)
     have hd:=decide_eq_true h0
     obtain ⟨hk,h1,h2,h3⟩:=h0
     unfold zeg at hk
     unfold zas y5 at h
     by_cases h4:w=4867
     ·rw [if_pos h4,if_pos h4] at h
      obtain ⟨ht,hn⟩:=zy h
      have hpp:key.length=32∧nonce.length=12∧aad.length≤65536∧(s.length:Int)-16≤65536:=⟨by omega,h1,h2,h3⟩
      by_cases hq:16≤s.length∧yt key nonce aad (s.take (s.length-16))=s.drop (s.length-16)
      ·have h:=ht (decide_eq_true hq)
       have hdq:=decide_eq_true hq
       repeat ((conv=>whnf);first|refine zu ?_|refine zi ?_|refine zj ?_|refine zb ?_|refine zw (by first|exact hd|(rw [hd];rfl)|exact hdq) ?_|refine zo (by first|exact hd|(rw [hd];rfl)|exact hdq) ?_|refine zn (by first|exact hd|(rw [hd];rfl)|exact hdq) ?_)
       conv=>whnf
       exact ze [] h
      ·have h:=hn (decide_eq_false hq)
       have hdq:=decide_eq_false hq
       repeat ((conv=>whnf);first|refine zu ?_|refine zi ?_|refine zj ?_|refine zb ?_|refine zw (by first|exact hd|(rw [hd];rfl)|exact hdq) ?_|refine zo (by first|exact hd|(rw [hd];rfl)|exact hdq) ?_|refine zn (by first|exact hd|(rw [hd];rfl)|exact hdq) ?_)
       conv=>whnf
       exact ze [] h
     ·rw [if_neg h4,if_neg h4] at h
      obtain ⟨ht,hn⟩:=zy h
      have hpp:(key.length=16∨key.length=32)∧nonce.length=12∧aad.length≤65536∧(s.length:Int)-16≤65536:=⟨by omega,h1,h2,h3⟩
      by_cases hq:16≤s.length∧zg5 key nonce aad (s.take (s.length-16))=s.drop (s.length-16)
      ·have h:=ht (decide_eq_true hq)
       have hdq:=decide_eq_true hq
       repeat ((conv=>whnf);first|refine zu ?_|refine zi ?_|refine zj ?_|refine zb ?_|refine zw (by first|exact hd|(rw [hd];rfl)|exact hdq) ?_|refine zo (by first|exact hd|(rw [hd];rfl)|exact hdq) ?_|refine zn (by first|exact hd|(rw [hd];rfl)|exact hdq) ?_)
       conv=>whnf
       exact ze [] h
      ·have h:=hn (decide_eq_false hq)
       have hdq:=decide_eq_false hq
       repeat ((conv=>whnf);first|refine zu ?_|refine zi ?_|refine zj ?_|refine zb ?_|refine zw (by first|exact hd|(rw [hd];rfl)|exact hdq) ?_|refine zo (by first|exact hd|(rw [hd];rfl)|exact hdq) ?_|refine zn (by first|exact hd|(rw [hd];rfl)|exact hdq) ?_)
       conv=>whnf
       exact ze [] h
    ·have h:=hn0 (decide_eq_false h0)
     have hd:=decide_eq_false h0
     repeat ((conv=>whnf);first|refine zu ?_|refine zi ?_|refine zj ?_|refine zb ?_|refine zw (by first|exact hd|(rw [hd];rfl)) ?_|refine zo (by first|exact hd|(rw [hd];rfl)) ?_|refine zn (by first|exact hd|(rw [hd];rfl)) ?_)
     conv=>whnf
     exact ze [] h
   ·exact h.elim
end Go.Sym.Z

namespace Go.Sym.Z
open Go Go.Proofs.Tryz Go.Sym.Lp Go.Sym.Gcm Go.Sym.Aes Go.Sym.Pol Go.Sym.Cha
set_option maxRecDepth 100000
attribute [local irreducible] zav yt zg4 zg5 ze1 xl
def yh1:List (Nat×List PStep):= [(1,[⟨0,[]⟩,⟨1,[]⟩,⟨3,[0,1]⟩,⟨4,[0,1]⟩,⟨2,[3,4]⟩,⟨5,[]⟩,⟨6,[]⟩])]
def yh2:List (Nat×List PStep):= [(2,[⟨0,[]⟩,⟨1,[]⟩,⟨2,[0,1]⟩,⟨3,[0,1,2]⟩,⟨4,[0,1]⟩,⟨5,[]⟩])]
def yhf:List (Nat×List PStep):= []
def yit:List (Nat×List PStep):= []
def yhl:List (Nat×List PStep):= []
def yda:List (Nat×TyI):= [(3,ty3),(4,ty4),(5,ty5),(9,ty9),(48,zd3),(51,zd6),(168,zea),(113,xu),(99,xm),(183,zcc),(186,zfz),(134,zf6),(178,zeu),(216,zeq),(214,zew),(212,zej),(132,zhp),(136,zgo)]
theorem zdl: ∀t i,y9 yda t=some i→yx prog t i:=(zd zda (zd zc8 (zd zc9 (zd zdf (zd zbq (zd zbr (zd zjg (zd zbh (zd zcx (zd zvg (zd zul (zd ztl (zd zot (zd zoh (zd zna (zd zn4 (zd z3s (zd z2i zau))))))))))))))))))
def ziq:Spec:=fun args hp K=>match args,hp with
  | [.int w,.str key,.str nonce],[]=>zx (decide (w=4867)) (K (.agg [.str key,.str nonce,.nilptr]) [])
      (Pre (key.length=16∨key.length=32) (K (.agg [.str key,.str nonce,.ptr 0 0 0 []]) [.mk 186 [.ptr 1 0 0 [],.u64 (gH (gW key) (gR key)).1,.u64 (gH (gW key) (gR key)).2],.mk 216 [.arr8 256 box,.sl 2 0 0 [] (gR key) (gR key)],.mk 168 [.arr8 (16*gR key) (gW key)]]))
  |_,_=>False
theorem ztk:zm prog 90 ziq:=by
  refine zk zdl (zc zvo zg) rfl func90 rfl call90 (D:=yhf) ?_ ?_
  ·intro args hp K h
   unfold ziq at h
   split at h
   ·exact Nat.le_of_ble_eq_true rfl
   ·exact h.elim
  ·intro args hp K h
   unfold ziq at h
   split at h
   ·rename_i w key nonce
    obtain ⟨ht,hn⟩:=zy h
    by_cases h0:w=4867
    ·have h:=ht (decide_eq_true h0)
     refine za ?_
     exact ze [] h
    ·have h:=hn (decide_eq_false h0)
     obtain ⟨hk,h⟩:=zl h
     have hd:=decide_eq_true hk
     repeat ((conv=>whnf);first|refine zu ?_|refine zi ?_|refine zj ?_|refine zb ?_|refine zw (by first|exact hd) ?_|refine zo (by first|exact hd) ?_|refine zn (by first|exact hd) ?_)
     conv=>whnf
     exact ze [2,3,4] h
   ·exact h.elim
def z66:Spec:=fun args hp K=>match args,hp with
  | [.agg [.str key,.str nonce,.nilptr],.str aad,.sl 0 0 0 [] n c],[.mk t [.arr8 m l]]=>Pre (key.length=32∧nonce.length=12∧aad.length≤65536∧n≤65536∧n≤l.length∧n≤c) (K (.str (yt key nonce aad (l.take n))) [.mk t [.arr8 m l]])
  | [.agg [.str key,.str nonce,.ptr 0 0 0 []],.str aad,.sl 3 0 0 [] n c],[.mk t0 [.ptr 1 0 0 [],.u64 h1,.u64 h2],.mk t1 [.arr8 256 bx,.sl 2 0 0 [] R cR],.mk t2 [.arr8 N W],.mk t [.arr8 m l]]=>
      Pre (bx=box∧nonce.length=12∧1≤R∧R≤100∧16*R≤W.length∧n≤l.length∧n≤c∧aad.length≤65536∧n≤70000)
      (K (.str (gtg W R (h1,h2) nonce aad (l.take n))) [.mk t0 [.ptr 1 0 0 [],.u64 h1,.u64 h2],.mk t1 [.arr8 256 bx,.sl 2 0 0 [] R cR],.mk t2 [.arr8 N W],.mk t [.arr8 m l]])
  |_,_=>False
theorem ya7:zm prog 92 z66:=by
  refine zk zdl (zc z5l (zc z3v zg)) rfl func92 rfl call92 (D:=yit) ?_ ?_
  ·intro args hp K h
   unfold z66 at h
   split at h
   ·exact Nat.le_of_ble_eq_true rfl
   ·exact Nat.le_of_ble_eq_true rfl
   ·exact h.elim
  ·intro args hp K h
   unfold z66 at h
   split at h
   ·obtain ⟨hp,h⟩:=zl h
    refine za ?_
    exact ze [0] h
   ·obtain ⟨hp,h⟩:=zl h
    refine za ?_
    exact ze [0,1,2,3] h
   ·exact h.elim
def z6r:Spec:=fun args hp K=>match args,hp with
  | [.agg [.str key,.str nonce,.nilptr],.sl 0 0 0 [] n cap],[.mk t [.arr8 m l]]=>Pre (key.length=32∧nonce.length=12∧n≤l.length∧n≤cap∧n≤9223372036854775807)
      (K (.tup []) [.mk t [.arr8 m (xl key nonce (UInt32.ofInt 1) (l.take n)++l.drop n)]])
  | [.agg [.str key,.str nonce,.ptr 0 0 0 []],.sl 3 0 0 [] n cap],[.mk t0 [.ptr 1 0 0 [],.u64 h1,.u64 h2],.mk t1 [.arr8 256 bx,.sl 2 0 0 [] R c],.mk t2 [.arr8 N W],.mk t [.arr8 m l]]=>
      Pre (bx=box∧nonce.length=12∧1≤R∧R≤100∧16*R≤W.length∧n≤l.length∧n≤cap∧n≤9223372036854775807)
      (K (.tup []) [.mk t0 [.ptr 1 0 0 [],.u64 h1,.u64 h2],.mk t1 [.arr8 256 bx,.sl 2 0 0 [] R c],.mk t2 [.arr8 N W],.mk t [.arr8 m (gst W R nonce 2 (l.take n)++l.drop n)]])
  |_,_=>False
theorem ycp:zm prog 91 z6r:=by
  refine zk zdl (zc zyq (zc z5b zg)) rfl func91 rfl call91 (D:=yhl) ?_ ?_
  ·intro args hp K h
   unfold z6r at h
   split at h
   ·exact Nat.le_of_ble_eq_true rfl
   ·exact Nat.le_of_ble_eq_true rfl
   ·exact h.elim
  ·intro args hp K h
   unfold z6r at h
   split at h
   ·obtain ⟨hp,h⟩:=zl h
    refine za ?_
    exact ze [0] h
   ·obtain ⟨hp,h⟩:=zl h
    refine za ?_
    exact ze [0,1,2,3] h
   ·exact h.elim
end Go.Sym.Z

namespace Go.Sym.Z
open Go Go.Proofs.Tryz Go.Sym.Lp Go.Sym.Gcm Go.Sym.Aes Go.Sym.Pol Go.Sym.Cha
set_option maxRecDepth 100000
attribute [local irreducible] zav yt zg4 zg5 ze1 xl zas y5 gst gtg gW gR gH
def yha:List (Nat×List PStep):= [(7,[⟨0,[]⟩,⟨1,[0]⟩,⟨2,[0,1]⟩,⟨3,[0]⟩,⟨4,[]⟩]),(8,[⟨0,[]⟩,⟨1,[0]⟩,⟨2,[]⟩,⟨3,[0,1,2]⟩,⟨4,[0,1,2,3]⟩,⟨5,[0,1,2,3,4]⟩,⟨6,[0,1,2,3,4,5]⟩,⟨7,[0,1,2,3,4]⟩,⟨8,[0,1,2]⟩,⟨9,[]⟩])]
def zob (w:Int) (key nonce aad:List UInt8) (long:Int):Prop:=zeg w key.length∧nonce.length=12∧aad.length≤65536∧long≤65536
instance (w:Int) (key nonce aad:List UInt8) (long:Int):Decidable (zob w key nonce aad long):=by unfold zob;exact inferInstance
end Go.Sym.Z

namespace Go.Sym.Z
open Go Go.Proofs.Tryz Go.Sym.Lp Go.Sym.Gcm Go.Sym.Aes Go.Sym.Pol Go.Sym.Cha
set_option maxRecDepth 100000
attribute [local irreducible] zav yt zg4 zg5 ze1 xl zas y5 gst gtg gW gR gH y4
end Go.Sym.Z

namespace Go.Sym.Z
open Go Go.Proofs.Tryz Go.Sym.Lp Go.Sym.Cha Go.Sym.Sha Go.Sym.Hk
set_option maxRecDepth 100000
attribute [local irreducible] zaq exF
def yfn:List (Nat×List PStep):= []
def yid:List (Nat×List PStep):= []
def yht:List (Nat×List PStep):= []
def yih:List (Nat×List PStep):= []
def yis:List (Nat×List PStep):= [(5,[⟨0,[]⟩,⟨1,[0]⟩,⟨2,[0]⟩,⟨3,[0]⟩,⟨4,[0,1,2,3]⟩,⟨5,[0]⟩,⟨6,[]⟩,⟨7,[]⟩,⟨8,[0,1,2,3,4,5,6,7]⟩,⟨9,[0,1,2,3,4,5,6,7]⟩,⟨10,[0,1,2,3,4,5,6,7]⟩,⟨11,[0,1,2,3,4,5,6,7]⟩,⟨12,[0,1,2,3,4,5,6,7,8,9,10,11]⟩,⟨13,[0,1,2,3,4,5,6,7,8,9,10,11]⟩,⟨14,[0,1,2,3,4,5,6,7]⟩,⟨15,[0,1,2,3,4,5,6,7]⟩,⟨16,[]⟩,⟨17,[]⟩,⟨18,[]⟩])]
def yg4:List (Nat×List PStep):= []
def ydj:List (Nat×TyI):= [(3,ty3),(4,ty4),(5,ty5),(9,ty9),(48,zd3),(51,zd6),(113,xu),(99,xm),(103,ze6),(68,zk3),(70,zkk),(104,zen),(74,zkg),(23,zkf),(43,zkx)]
theorem y3: ∀t i,y9 ydj t=some i→yx prog t i:=(zd zda (zd zc8 (zd zc9 (zd zdf (zd zbq (zd zbr (zd zbh (zd zcx (zd zn5 (zd zsg (zd zs8 (zd zoz (zd zsa (zd zsu (zd zre zau)))))))))))))))
def su (w:Int):Prop:=w=4865∨w=4866∨w=4867
instance (w:Int):Decidable (su w):=by unfold su;exact inferInstance
def hB (w:Int):Int:=if w=4866 then 384 else 256
theorem zx9 (w:Int):hB w=256∨hB w=384:=by unfold hB;split<;>simp
def zqu:Spec:=fun args hp K=>match args,hp with
  | [.int w],[]=>zx (decide (su w)) (K (.tup [.int (hB w),.int 0]) []) (K (.tup [.int 0,.int 1900]) [])
  |_,_=>False
theorem z74:zm prog 113 zqu:=by
  refine zk y3 (zc zsi zg) rfl func113 rfl call113 (D:=yfn) ?_ ?_
  ·intro args hp K h
   unfold zqu at h
   split at h
   ·exact Nat.le_of_ble_eq_true rfl
   ·exact h.elim
  ·intro args hp K h
   unfold zqu at h
   split at h
   ·rename_i w
    obtain ⟨ht,hf⟩:=zy h
    have four:w=4865∨w=4866∨w=4867∨(w≠4865∧w≠4866∧w≠4867):=by omega
    rcases four with h0|h0|h0|⟨h0,h1,h2⟩
    ·have h:=ht (decide_eq_true (.inl h0))
     rw [show hB w=256 by unfold hB;rw [if_neg (by omega)]] at h
     refine za ?_
     exact ze [] h
    ·have h:=ht (decide_eq_true (.inr (.inl h0)))
     rw [show hB w=384 by unfold hB;rw [if_pos h0]] at h
     refine za ?_
     exact ze [] h
    ·have h:=ht (decide_eq_true (.inr (.inr h0)))
     rw [show hB w=256 by unfold hB;rw [if_neg (by omega)]] at h
     refine za ?_
     exact ze [] h
    ·have h:=hf (decide_eq_false (by unfold su;omega))
     refine za ?_
     exact ze [] h
   ·exact h.elim
def zhx:Spec:=fun args hp K=>match args,hp with
  | [.int w,.str key,.str label,.str ctx,.int size],[]=>Pre (key.length≤140737488351232∧label.length≤100∧ctx.length≤255∧0≤size∧size≤1000)
      (zx (decide (su w)) (K (.tup [.str (zaq (hB w) key label ctx size.toNat),.int 0]) []) (K (.tup [.str [],.int 1900]) []))
  |_,_=>False
theorem z4s:zm prog 86 zhx:=by
  refine zk y3 (zc z74 (zc z8h zg)) rfl func86 rfl call86 (D:=yid) ?_ ?_
  ·intro args hp K h
   unfold zhx at h
   split at h
   ·exact Nat.le_of_ble_eq_true rfl
   ·exact h.elim
  ·intro args hp K h
   unfold zhx at h
   split at h
   ·rename_i w key label ctx size
    obtain ⟨⟨hk,hl,hc,hs0,hs⟩,h⟩:=zl h
    obtain ⟨ht,hf⟩:=zy h
    have hp:(hB w=256∨hB w=384)∧key.length≤140737488351232∧label.length≤100∧ctx.length≤255∧0≤size∧size≤1000:=⟨zx9 w,hk,hl,hc,hs0,hs⟩
    generalize e:decide (su w)=c at ht hf
    cases c
    ·have h:=hf rfl
     refine za ?_
     exact ze [] h
    ·have h:=ht rfl
     refine za ?_
     exact ze [] h
   ·exact h.elim
def aSz (w:Int):Nat:=if w=4865 then 16 else 32
def kyF (w:Int) (s:List UInt8):List UInt8:=zaq (hB w) s [107,101,121] [] (aSz w)
def ivF (w:Int) (s:List UInt8):List UInt8:=zaq (hB w) s [105,118] [] 12
theorem zl9 (w:Int) (s:List UInt8):(kyF w s).length=aSz w:=zuv (zx9 w) _ _ _ _
theorem zmi (w:Int) (s:List UInt8):(ivF w s).length=12:=zuv (zx9 w) _ _ _ _
def znb:Spec:=fun args hp K=>match args,hp with
  | [.int w,.str s],[]=>Pre (s.length≤140737488351232)
      (zx (decide (su w)) (K (.tup [.str (kyF w s),.str (ivF w s),.int 0]) []) (K (.tup [.str [],.str [],.int 1900]) []))
  |_,_=>False
theorem yat:zm prog 62 znb:=by
  refine zk y3 (zc zsi (zc z4s zg)) rfl func62 rfl call62 (D:=yht) ?_ ?_
  ·intro args hp K h
   unfold znb at h
   split at h
   ·exact Nat.le_of_ble_eq_true rfl
   ·exact h.elim
  ·intro args hp K h
   unfold znb at h
   split at h
   ·rename_i w s
    obtain ⟨hs,h⟩:=zl h
    obtain ⟨ht,hf⟩:=zy h
    have four:w=4865∨w=4866∨w=4867∨(w≠4865∧w≠4866∧w≠4867):=by omega
    rcases four with h0|h0|h0|⟨h0,h1,h2⟩
    ·have hd:decide (su w)=true:=decide_eq_true (.inl h0)
     have h:=ht hd
     rw [show kyF w s=zaq (hB w) s [107,101,121] [] (Int.toNat 16) by unfold kyF aSz;rw [if_pos h0];rfl,show ivF w s=zaq (hB w) s [105,118] [] (Int.toNat 12) by unfold ivF;rfl] at h
     refine za ?_
     exact ze [] h
    ·have hd:decide (su w)=true:=decide_eq_true (.inr (.inl h0))
     have h:=ht hd
     rw [show kyF w s=zaq (hB w) s [107,101,121] [] (Int.toNat 32) by unfold kyF aSz;rw [if_neg (by omega)];rfl,show ivF w s=zaq (hB w) s [105,118] [] (Int.toNat 12) by unfold ivF;rfl] at h
     refine za ?_
     exact ze [] h
    ·have hd:decide (su w)=true:=decide_eq_true (.inr (.inr h0))
     have h:=ht hd
     rw [show kyF w s=zaq (hB w) s [107,101,121] [] (Int.toNat 32) by unfold kyF aSz;rw [if_neg (by omega)];rfl,show ivF w s=zaq (hB w) s [105,118] [] (Int.toNat 12) by unfold ivF;rfl] at h
     refine za ?_
     exact ze [] h
    ·have hd:decide (su w)=false:=decide_eq_false (by unfold su;omega)
     have h:=hf hd
     refine za ?_
     exact ze [] h
   ·exact h.elim
attribute [local irreducible] kyF ivF
def zmo:Spec:=fun args hp K=>match args,hp with
  | [.int w,.str s],[]=>Pre (s.length≤140737488351232)
      (zx (decide (su w)) (K (.tup [.ptr 0 0 0 [],.int 0]) [.mk 103 [.int w,.str (kyF w s),.str (ivF w s),.int 0]]) (K (.tup [.nilptr,.int 2100]) []))
  |_,_=>False
theorem zqc:zm prog 42 zmo:=by
  refine zk y3 (zc yat zg) rfl func42 rfl call42 (D:=yih) ?_ ?_
  ·intro args hp K h
   unfold zmo at h
   split at h
   ·exact Nat.le_of_ble_eq_true rfl
   ·exact h.elim
  ·intro args hp K h
   unfold zmo at h
   split at h
   ·rename_i w s
    obtain ⟨hs,h⟩:=zl h
    obtain ⟨ht,hf⟩:=zy h
    generalize e:decide (su w)=c at ht hf
    cases c
    ·have h:=hf rfl
     refine za ?_
     exact ze [] h
    ·have h:=ht rfl
     refine za ?_
     exact ze [0] h
   ·exact h.elim
def y6 (k:Int):Prop:=k=20∨k=21∨k=22∨k=23
instance (k:Int):Decidable (y6 k):=by unfold y6;exact inferInstance
def zwj:Spec:=fun args hp K=>match args,hp with
  | [.int k],[]=>K (.bool (decide (y6 k))) []
  |_,_=>False
theorem zzu:zm prog 63 zwj:=by
  refine zk y3 zg rfl func63 rfl call63 (D:=yg4) ?_ ?_
  ·intro args hp K h
   unfold zwj at h
   split at h
   ·exact Nat.le_of_ble_eq_true rfl
   ·exact h.elim
  ·intro args hp K h
   unfold zwj at h
   split at h
   ·rename_i k
    have zd5:k=20∨k=21∨k=22∨k=23∨(k≠20∧k≠21∧k≠22∧k≠23):=by omega
    rcases zd5 with h0|h0|h0|h0|⟨h0,h1,h2,h3⟩
    ·rw [decide_eq_true (show y6 k by unfold y6;omega)] at h
     refine za ?_
     exact ze [] h
    ·rw [decide_eq_true (show y6 k by unfold y6;omega)] at h
     refine za ?_
     exact ze [] h
    ·rw [decide_eq_true (show y6 k by unfold y6;omega)] at h
     refine za ?_
     exact ze [] h
    ·rw [decide_eq_true (show y6 k by unfold y6;omega)] at h
     refine za ?_
     exact ze [] h
    ·rw [decide_eq_false (show ¬y6 k by unfold y6;omega)] at h
     refine za ?_
     exact ze [] h
   ·exact h.elim
def zlj (iv:List UInt8) (many:Int):Nat→List UInt8
  |0=>iv
  |i+1=>(zlj iv many i).set (12-1-i) ((zlj iv many i).getD (12-1-i) 0^^^UInt8.ofInt (many/ 2^(8*i)))
theorem zjw (iv:List UInt8) (many:Int): ∀i,(zlj iv many i).length=iv.length
  |0=>rfl
  |i+1=>by simp only [zlj,List.length_set];exact zjw iv many i
def ncF (iv:List UInt8) (many:Int):List UInt8:=zlj iv many 8
theorem zsr (iv:List UInt8) (many:Int):(ncF iv many).length=iv.length:=zjw _ _ _
def zwq:Spec:=fun args hp K=>match args,hp with
  | [.ptr 0 0 0 []],[.mk t [.int w,.str key,.str iv,.int many]]=>Pre (iv.length=12) (K (.str (ncF iv many)) [.mk t [.int w,.str key,.str iv,.int many]])
  |_,_=>False
theorem zy3:zm prog 67 zwq:=by
  refine zk y3 zg rfl func67 rfl call67 (D:=yis) ?_ ?_
  ·intro args hp K h
   unfold zwq at h
   split at h
   ·exact Nat.le_of_ble_eq_true rfl
   ·exact h.elim
  ·intro args hp K h
   unfold zwq at h
   split at h
   ·rename_i t w key iv many
    obtain ⟨hiv,h⟩:=zl h
    refine za ?_
    refine y0 fun tl=>?_
    refine za ?_
    refine zp (Ix (8)) (fun q=>⟨[(3,.sl 1 0 0 [] iv.length (iv.length+tl.length)),(10,.int q.i),(0,.ptr 0 0 0 [])],[.mk t [.int w,.str key,.str iv,.int many],.mk 5 [.arr8 (iv.length+tl.length) (zlj iv many q.i++tl)]]⟩) (fun q=>(8)-q.i) ⟨0,Nat.zero_le _⟩ [0,1] ?_ ?_
    ·exact zt
    ·intro q
     have hi:=q.hi
     have hl:=zjw iv many q.i
     rw [hiv] at hl
     have hla:(zlj iv many q.i++tl).length=12+tl.length:=by rw [List.length_append,hl]
     have hof:off (ye [] ((iv.length:Int)-1-(q.i:Int)).toNat ty5.sz)=12-1-q.i:=by rw [zv];show 0+((iv.length:Int)-1-(q.i:Int)).toNat*1=_;omega
     have hk:(8*(q.i:Int)).toNat=8*q.i:=by omega
     by_cases h4:q.i<8
     ·refine za ?_
      refine ⟨⟨q.i+1,h4⟩,[0,1],by show (8)-(q.i+1)<(8)-q.i;omega,?_⟩
      repeat ((conv=>whnf);refine zb ?_)
      conv=>whnf
      exact zh (congrArg (fun x=>SV.agg [SV.arr8 (iv.length+tl.length) x]) (show _=zlj iv many (q.i+1)++tl by simp only [zlj];rw [hof,hk,List.set_append_left _ _ (by omega),List.getD_eq_getElem?_getD,List.getElem?_append_left (by omega),←List.getD_eq_getElem?_getD]))
     ·have e4:q.i=8:=by omega
      have hF:List.take iv.length (List.drop (off []) (zlj iv many 8++tl))=ncF iv many:=List.take_left' (zjw iv many 8)
      rw [e4] at hla
      have hpo:off []+iv.length≤(zlj iv many 8++tl).length:=by rw [hla,hiv];show 0+12≤_;omega
      rw [e4]
      refine za ?_
      rw [hF]
      conv=>whnf
      exact ze [0] h
   ·exact h.elim
end Go.Sym.Z
