/-
  Contracts of functions of the program, each said of symbolic values, and plain laws; no condition beyond each statement's own.
-/
import Derived.Test.YtmmpgjcpielefaaGreatGLRecActs31
set_option linter.unusedSimpArgs false
set_option linter.unusedVariables false
namespace Go.Sym.Z
open Go Go.Proofs.Tryz Go.Sym.Lp Go.Sym.Gcm Go.Sym.Aes Go.Sym.Pol Go.Sym.Cha
set_option maxRecDepth 100000
attribute [local irreducible] za1 yv zhm zey ze3 xg
set_option maxHeartbeats 4000000 in
theorem yb4:zp prog 121 zlt:=by
  refine zm yy (zc z7t (zc z7n (zc z5x zi))) rfl func121 rfl call121 (D:=yhc) ?_ ?_
  ·intro args hp K h
   unfold zlt at h
   split at h
   ·exact Nat.le_of_ble_eq_true rfl
   ·exact h.elim
  ·intro args hp K h
   unfold zlt at h
   split at h
   ·rename_i w key nonce aad s
    obtain ⟨hs63,h⟩:=zn h
    obtain ⟨ht0,hn0⟩:=zw h
    have four:w=4865∨w=4866∨w=4867∨(w≠4865∧w≠4866∧w≠4867):=by omega
    by_cases h0:zeb w key.length∧nonce.length=12∧aad.length≤65536∧(s.length:Int)-16≤65536
    ·have h:=ht0 (decide_eq_true h0)
     have hd:=decide_eq_true h0
     obtain ⟨hk,h1,h2,h3⟩:=h0
     unfold zeb at hk
     unfold zas y0 at h
     by_cases h4:w=4867
     ·rw [if_pos h4,if_pos h4] at h
      obtain ⟨ht,hn⟩:=zw h
      have hpp:key.length=32∧nonce.length=12∧aad.length≤65536∧(s.length:Int)-16≤65536:=⟨by omega,h1,h2,h3⟩
      by_cases hq:16≤s.length∧yv key nonce aad (s.take (s.length-16))=s.drop (s.length-16)
      ·have h:=ht (decide_eq_true hq)
       have hdq:=decide_eq_true hq
       repeat ((conv=>whnf);first|refine zq ?_|refine zf ?_|refine zg ?_|refine zb ?_|refine zr (by first|exact hd|(rw [hd];rfl)|exact hdq) ?_|refine zj (by first|exact hd|(rw [hd];rfl)|exact hdq) ?_|refine zk (by first|exact hd|(rw [hd];rfl)|exact hdq) ?_)
       conv=>whnf
       exact zd [] h
      ·have h:=hn (decide_eq_false hq)
       have hdq:=decide_eq_false hq
       repeat ((conv=>whnf);first|refine zq ?_|refine zf ?_|refine zg ?_|refine zb ?_|refine zr (by first|exact hd|(rw [hd];rfl)|exact hdq) ?_|refine zj (by first|exact hd|(rw [hd];rfl)|exact hdq) ?_|refine zk (by first|exact hd|(rw [hd];rfl)|exact hdq) ?_)
       conv=>whnf
       exact zd [] h
     ·rw [if_neg h4,if_neg h4] at h
      obtain ⟨ht,hn⟩:=zw h
      have hpp:(key.length=16∨key.length=32)∧nonce.length=12∧aad.length≤65536∧(s.length:Int)-16≤65536:=⟨by omega,h1,h2,h3⟩
      by_cases hq:16≤s.length∧zey key nonce aad (s.take (s.length-16))=s.drop (s.length-16)
      ·have h:=ht (decide_eq_true hq)
       have hdq:=decide_eq_true hq
       repeat ((conv=>whnf);first|refine zq ?_|refine zf ?_|refine zg ?_|refine zb ?_|refine zr (by first|exact hd|(rw [hd];rfl)|exact hdq) ?_|refine zj (by first|exact hd|(rw [hd];rfl)|exact hdq) ?_|refine zk (by first|exact hd|(rw [hd];rfl)|exact hdq) ?_)
       conv=>whnf
       exact zd [] h
      ·have h:=hn (decide_eq_false hq)
       have hdq:=decide_eq_false hq
       repeat ((conv=>whnf);first|refine zq ?_|refine zf ?_|refine zg ?_|refine zb ?_|refine zr (by first|exact hd|(rw [hd];rfl)|exact hdq) ?_|refine zj (by first|exact hd|(rw [hd];rfl)|exact hdq) ?_|refine zk (by first|exact hd|(rw [hd];rfl)|exact hdq) ?_)
       conv=>whnf
       exact zd [] h
    ·have h:=hn0 (decide_eq_false h0)
     have hd:=decide_eq_false h0
     repeat ((conv=>whnf);first|refine zq ?_|refine zf ?_|refine zg ?_|refine zb ?_|refine zr (by first|exact hd|(rw [hd];rfl)) ?_|refine zj (by first|exact hd|(rw [hd];rfl)) ?_|refine zk (by first|exact hd|(rw [hd];rfl)) ?_)
     conv=>whnf
     exact zd [] h
   ·exact h.elim
end Go.Sym.Z

namespace Go.Sym.Z
open Go Go.Proofs.Tryz Go.Sym.Lp Go.Sym.Gcm Go.Sym.Aes Go.Sym.Pol Go.Sym.Cha
set_option maxRecDepth 100000
attribute [local irreducible] za1 yv zhm zey ze3 xg
def yj3:List (Nat×List PStep):= [(1,[⟨0,[]⟩,⟨1,[]⟩,⟨3,[0,1]⟩,⟨4,[0,1]⟩,⟨2,[3,4]⟩,⟨5,[]⟩,⟨6,[]⟩])]
def ylp:List (Nat×List PStep):= [(2,[⟨0,[]⟩,⟨1,[]⟩,⟨2,[0,1]⟩,⟨3,[0,1,2]⟩,⟨4,[0,1]⟩,⟨5,[]⟩])]
def yll:List (Nat×List PStep):= []
def ykz:List (Nat×List PStep):= []
def yk8:List (Nat×List PStep):= []
def ye8:List (Nat×TyI):= [(3,ty3),(4,ty4),(5,ty5),(9,ty9),(48,zef),(51,zei),(168,zel),(113,xw),(99,xl),(183,zco),(186,zgm),(134,zgp),(178,ze2),(216,zfm),(214,ze4),(212,zfg),(132,zha),(136,zho)]
theorem zd0: ∀t i,xa ye8 t=some i→yx prog t i:=(ze zc1 (ze zcz (ze zc2 (ze zcu (ze zbj (ze zbl (ze zk4 (ze zba (ze zcd (ze zxg (ze zu6 (ze zwd (ze zp1 (ze zn0 (ze zoa (ze zpk (ze z7e (ze z7r zau))))))))))))))))))
def zi8:Spec:=fun args hp K=>match args,hp with
  | [.int w,.str key,.str nonce],[]=>zx (decide (w=4867)) (K (.agg [.str key,.str nonce,.nilptr]) [])
      (Pre (key.length=16∨key.length=32) (K (.agg [.str key,.str nonce,.ptr 0 0 0 []]) [.mk 186 [.ptr 1 0 0 [],.u64 (gH (gW key) (gR key)).1,.u64 (gH (gW key) (gR key)).2],.mk 216 [.arr8 256 box,.sl 2 0 0 [] (gR key) (gR key)],.mk 168 [.arr8 (16*gR key) (gW key)]]))
  |_,_=>False
theorem zxi:zp prog 90 zi8:=by
  refine zm zd0 (zc zwh zi) rfl func90 rfl call90 (D:=yll) ?_ ?_
  ·intro args hp K h
   unfold zi8 at h
   split at h
   ·exact Nat.le_of_ble_eq_true rfl
   ·exact h.elim
  ·intro args hp K h
   unfold zi8 at h
   split at h
   ·rename_i w key nonce
    obtain ⟨ht,hn⟩:=zw h
    by_cases h0:w=4867
    ·have h:=ht (decide_eq_true h0)
     refine za ?_
     exact zd [] h
    ·have h:=hn (decide_eq_false h0)
     obtain ⟨hk,h⟩:=zn h
     have hd:=decide_eq_true hk
     repeat ((conv=>whnf);first|refine zq ?_|refine zf ?_|refine zg ?_|refine zb ?_|refine zr (by first|exact hd) ?_|refine zj (by first|exact hd) ?_|refine zk (by first|exact hd) ?_)
     conv=>whnf
     exact zd [2,3,4] h
   ·exact h.elim
def z7d:Spec:=fun args hp K=>match args,hp with
  | [.agg [.str key,.str nonce,.nilptr],.str aad,.sl 0 0 0 [] n c],[.mk t [.arr8 m l]]=>Pre (key.length=32∧nonce.length=12∧aad.length≤65536∧n≤65536∧n≤l.length∧n≤c) (K (.str (yv key nonce aad (l.take n))) [.mk t [.arr8 m l]])
  | [.agg [.str key,.str nonce,.ptr 0 0 0 []],.str aad,.sl 3 0 0 [] n c],[.mk t0 [.ptr 1 0 0 [],.u64 h1,.u64 h2],.mk t1 [.arr8 256 bx,.sl 2 0 0 [] R cR],.mk t2 [.arr8 N W],.mk t [.arr8 m l]]=>
      Pre (bx=box∧nonce.length=12∧1≤R∧R≤100∧16*R≤W.length∧n≤l.length∧n≤c∧aad.length≤65536∧n≤70000)
      (K (.str (gtg W R (h1,h2) nonce aad (l.take n))) [.mk t0 [.ptr 1 0 0 [],.u64 h1,.u64 h2],.mk t1 [.arr8 256 bx,.sl 2 0 0 [] R cR],.mk t2 [.arr8 N W],.mk t [.arr8 m l]])
  |_,_=>False
theorem yft:zp prog 92 z7d:=by
  refine zm zd0 (zc z41 (zc z4u zi)) rfl func92 rfl call92 (D:=ykz) ?_ ?_
  ·intro args hp K h
   unfold z7d at h
   split at h
   ·exact Nat.le_of_ble_eq_true rfl
   ·exact Nat.le_of_ble_eq_true rfl
   ·exact h.elim
  ·intro args hp K h
   unfold z7d at h
   split at h
   ·obtain ⟨hp,h⟩:=zn h
    refine za ?_
    exact zd [0] h
   ·obtain ⟨hp,h⟩:=zn h
    refine za ?_
    exact zd [0,1,2,3] h
   ·exact h.elim
def z6f:Spec:=fun args hp K=>match args,hp with
  | [.agg [.str key,.str nonce,.nilptr],.sl 0 0 0 [] n cap],[.mk t [.arr8 m l]]=>Pre (key.length=32∧nonce.length=12∧n≤l.length∧n≤cap∧n≤9223372036854775807)
      (K (.tup []) [.mk t [.arr8 m (xg key nonce (UInt32.ofInt 1) (l.take n)++l.drop n)]])
  | [.agg [.str key,.str nonce,.ptr 0 0 0 []],.sl 3 0 0 [] n cap],[.mk t0 [.ptr 1 0 0 [],.u64 h1,.u64 h2],.mk t1 [.arr8 256 bx,.sl 2 0 0 [] R c],.mk t2 [.arr8 N W],.mk t [.arr8 m l]]=>
      Pre (bx=box∧nonce.length=12∧1≤R∧R≤100∧16*R≤W.length∧n≤l.length∧n≤cap∧n≤9223372036854775807)
      (K (.tup []) [.mk t0 [.ptr 1 0 0 [],.u64 h1,.u64 h2],.mk t1 [.arr8 256 bx,.sl 2 0 0 [] R c],.mk t2 [.arr8 N W],.mk t [.arr8 m (gst W R nonce 2 (l.take n)++l.drop n)]])
  |_,_=>False
theorem ydm:zp prog 91 z6f:=by
  refine zm zd0 (zc zz5 (zc z7o zi)) rfl func91 rfl call91 (D:=yk8) ?_ ?_
  ·intro args hp K h
   unfold z6f at h
   split at h
   ·exact Nat.le_of_ble_eq_true rfl
   ·exact Nat.le_of_ble_eq_true rfl
   ·exact h.elim
  ·intro args hp K h
   unfold z6f at h
   split at h
   ·obtain ⟨hp,h⟩:=zn h
    refine za ?_
    exact zd [0] h
   ·obtain ⟨hp,h⟩:=zn h
    refine za ?_
    exact zd [0,1,2,3] h
   ·exact h.elim
end Go.Sym.Z

namespace Go.Sym.Z
open Go Go.Proofs.Tryz Go.Sym.Lp Go.Sym.Gcm Go.Sym.Aes Go.Sym.Pol Go.Sym.Cha
set_option maxRecDepth 100000
attribute [local irreducible] za1 yv zhm zey ze3 xg zas y0 gst gtg gW gR gH
def yk4:List (Nat×List PStep):= [(7,[⟨0,[]⟩,⟨1,[0]⟩,⟨2,[0,1]⟩,⟨3,[0]⟩,⟨4,[]⟩]),(8,[⟨0,[]⟩,⟨1,[0]⟩,⟨2,[]⟩,⟨3,[0,1,2]⟩,⟨4,[0,1,2,3]⟩,⟨5,[0,1,2,3,4]⟩,⟨6,[0,1,2,3,4,5]⟩,⟨7,[0,1,2,3,4]⟩,⟨8,[0,1,2]⟩,⟨9,[]⟩])]
def zqa (w:Int) (key nonce aad:List UInt8) (long:Int):Prop:=zeb w key.length∧nonce.length=12∧aad.length≤65536∧long≤65536
instance (w:Int) (key nonce aad:List UInt8) (long:Int):Decidable (zqa w key nonce aad long):=by unfold zqa;exact inferInstance
end Go.Sym.Z

namespace Go.Sym.Z
open Go Go.Proofs.Tryz Go.Sym.Lp Go.Sym.Gcm Go.Sym.Aes Go.Sym.Pol Go.Sym.Cha
set_option maxRecDepth 100000
attribute [local irreducible] za1 yv zhm zey ze3 xg zas y0 gst gtg gW gR gH xi
end Go.Sym.Z

namespace Go.Sym.Z
open Go Go.Proofs.Tryz Go.Sym.Lp Go.Sym.Cha Go.Sym.Sha Go.Sym.Hk
set_option maxRecDepth 100000
attribute [local irreducible] za3 exF
def yhu:List (Nat×List PStep):= []
def ylq:List (Nat×List PStep):= []
def ylc:List (Nat×List PStep):= []
def yjm:List (Nat×List PStep):= []
def yk9:List (Nat×List PStep):= [(5,[⟨0,[]⟩,⟨1,[0]⟩,⟨2,[0]⟩,⟨3,[0]⟩,⟨4,[0,1,2,3]⟩,⟨5,[0]⟩,⟨6,[]⟩,⟨7,[]⟩,⟨8,[0,1,2,3,4,5,6,7]⟩,⟨9,[0,1,2,3,4,5,6,7]⟩,⟨10,[0,1,2,3,4,5,6,7]⟩,⟨11,[0,1,2,3,4,5,6,7]⟩,⟨12,[0,1,2,3,4,5,6,7,8,9,10,11]⟩,⟨13,[0,1,2,3,4,5,6,7,8,9,10,11]⟩,⟨14,[0,1,2,3,4,5,6,7]⟩,⟨15,[0,1,2,3,4,5,6,7]⟩,⟨16,[]⟩,⟨17,[]⟩,⟨18,[]⟩])]
def ykd:List (Nat×List PStep):= []
def yg2:List (Nat×TyI):= [(3,ty3),(4,ty4),(5,ty5),(9,ty9),(48,zef),(51,zei),(113,xw),(99,xl),(103,zfe),(68,zmg),(70,zlr),(104,ze8),(74,zlf),(23,zll),(43,zkn)]
theorem y6: ∀t i,xa yg2 t=some i→yx prog t i:=(ze zc1 (ze zcz (ze zc2 (ze zcu (ze zbj (ze zbl (ze zba (ze zcd (ze zqb (ze zty (ze zup (ze zps (ze zts (ze ztd (ze zm5 zau)))))))))))))))
def su (w:Int):Prop:=w=4865∨w=4866∨w=4867
instance (w:Int):Decidable (su w):=by unfold su;exact inferInstance
def hB (w:Int):Int:=if w=4866 then 384 else 256
theorem z0q (w:Int):hB w=256∨hB w=384:=by unfold hB;split<;>simp
def zrs:Spec:=fun args hp K=>match args,hp with
  | [.int w],[]=>zx (decide (su w)) (K (.tup [.int (hB w),.int 0]) []) (K (.tup [.int 0,.int 1900]) [])
  |_,_=>False
theorem z97:zp prog 113 zrs:=by
  refine zm y6 (zc zs6 zi) rfl func113 rfl call113 (D:=yhu) ?_ ?_
  ·intro args hp K h
   unfold zrs at h
   split at h
   ·exact Nat.le_of_ble_eq_true rfl
   ·exact h.elim
  ·intro args hp K h
   unfold zrs at h
   split at h
   ·rename_i w
    obtain ⟨ht,hf⟩:=zw h
    have four:w=4865∨w=4866∨w=4867∨(w≠4865∧w≠4866∧w≠4867):=by omega
    rcases four with h0|h0|h0|⟨h0,h1,h2⟩
    ·have h:=ht (decide_eq_true (.inl h0))
     rw [show hB w=256 by unfold hB;rw [if_neg (by omega)]] at h
     refine za ?_
     exact zd [] h
    ·have h:=ht (decide_eq_true (.inr (.inl h0)))
     rw [show hB w=384 by unfold hB;rw [if_pos h0]] at h
     refine za ?_
     exact zd [] h
    ·have h:=ht (decide_eq_true (.inr (.inr h0)))
     rw [show hB w=256 by unfold hB;rw [if_neg (by omega)]] at h
     refine za ?_
     exact zd [] h
    ·have h:=hf (decide_eq_false (by unfold su;omega))
     refine za ?_
     exact zd [] h
   ·exact h.elim
def zia:Spec:=fun args hp K=>match args,hp with
  | [.int w,.str key,.str label,.str ctx,.int size],[]=>Pre (key.length≤140737488351232∧label.length≤100∧ctx.length≤255∧0≤size∧size≤1000)
      (zx (decide (su w)) (K (.tup [.str (za3 (hB w) key label ctx size.toNat),.int 0]) []) (K (.tup [.str [],.int 1900]) []))
  |_,_=>False
theorem z6w:zp prog 86 zia:=by
  refine zm y6 (zc z97 (zc ybm zi)) rfl func86 rfl call86 (D:=ylq) ?_ ?_
  ·intro args hp K h
   unfold zia at h
   split at h
   ·exact Nat.le_of_ble_eq_true rfl
   ·exact h.elim
  ·intro args hp K h
   unfold zia at h
   split at h
   ·rename_i w key label ctx size
    obtain ⟨⟨hk,hl,hc,hs0,hs⟩,h⟩:=zn h
    obtain ⟨ht,hf⟩:=zw h
    have hp:(hB w=256∨hB w=384)∧key.length≤140737488351232∧label.length≤100∧ctx.length≤255∧0≤size∧size≤1000:=⟨z0q w,hk,hl,hc,hs0,hs⟩
    generalize e:decide (su w)=c at ht hf
    cases c
    ·have h:=hf rfl
     refine za ?_
     exact zd [] h
    ·have h:=ht rfl
     refine za ?_
     exact zd [] h
   ·exact h.elim
def aSz (w:Int):Nat:=if w=4865 then 16 else 32
def kyF (w:Int) (s:List UInt8):List UInt8:=za3 (hB w) s [107,101,121] [] (aSz w)
def ivF (w:Int) (s:List UInt8):List UInt8:=za3 (hB w) s [105,118] [] 12
theorem znp (w:Int) (s:List UInt8):(kyF w s).length=aSz w:=zvk (z0q w) _ _ _ _
theorem znm (w:Int) (s:List UInt8):(ivF w s).length=12:=zvk (z0q w) _ _ _ _
def zsb:Spec:=fun args hp K=>match args,hp with
  | [.int w,.str s],[]=>Pre (s.length≤140737488351232)
      (zx (decide (su w)) (K (.tup [.str (kyF w s),.str (ivF w s),.int 0]) []) (K (.tup [.str [],.str [],.int 1900]) []))
  |_,_=>False
theorem ye4:zp prog 62 zsb:=by
  refine zm y6 (zc zs6 (zc z6w zi)) rfl func62 rfl call62 (D:=ylc) ?_ ?_
  ·intro args hp K h
   unfold zsb at h
   split at h
   ·exact Nat.le_of_ble_eq_true rfl
   ·exact h.elim
  ·intro args hp K h
   unfold zsb at h
   split at h
   ·rename_i w s
    obtain ⟨hs,h⟩:=zn h
    obtain ⟨ht,hf⟩:=zw h
    have four:w=4865∨w=4866∨w=4867∨(w≠4865∧w≠4866∧w≠4867):=by omega
    rcases four with h0|h0|h0|⟨h0,h1,h2⟩
    ·have hd:decide (su w)=true:=decide_eq_true (.inl h0)
     have h:=ht hd
     rw [show kyF w s=za3 (hB w) s [107,101,121] [] (Int.toNat 16) by unfold kyF aSz;rw [if_pos h0];rfl,show ivF w s=za3 (hB w) s [105,118] [] (Int.toNat 12) by unfold ivF;rfl] at h
     refine za ?_
     exact zd [] h
    ·have hd:decide (su w)=true:=decide_eq_true (.inr (.inl h0))
     have h:=ht hd
     rw [show kyF w s=za3 (hB w) s [107,101,121] [] (Int.toNat 32) by unfold kyF aSz;rw [if_neg (by omega)];rfl,show ivF w s=za3 (hB w) s [105,118] [] (Int.toNat 12) by unfold ivF;rfl] at h
     refine za ?_
     exact zd [] h
    ·have hd:decide (su w)=true:=decide_eq_true (.inr (.inr h0))
     have h:=ht hd
     rw [show kyF w s=za3 (hB w) s [107,101,121] [] (Int.toNat 32) by unfold kyF aSz;rw [if_neg (by omega)];rfl,show ivF w s=za3 (hB w) s [105,118] [] (Int.toNat 12) by unfold ivF;rfl] at h
     refine za ?_
     exact zd [] h
    ·have hd:decide (su w)=false:=decide_eq_false (by unfold su;omega)
     have h:=hf hd
     refine za ?_
     exact zd [] h
   ·exact h.elim
attribute [local irreducible] kyF ivF
def zpz:Spec:=fun args hp K=>match args,hp with
  | [.int w,.str s],[]=>Pre (s.length≤140737488351232)
      (zx (decide (su w)) (K (.tup [.ptr 0 0 0 [],.int 0]) [.mk 103 [.int w,.str (kyF w s),.str (ivF w s),.int 0]]) (K (.tup [.nilptr,.int 2100]) []))
  |_,_=>False
theorem zsh:zp prog 42 zpz:=by
  refine zm y6 (zc ye4 zi) rfl func42 rfl call42 (D:=yjm) ?_ ?_
  ·intro args hp K h
   unfold zpz at h
   split at h
   ·exact Nat.le_of_ble_eq_true rfl
   ·exact h.elim
  ·intro args hp K h
   unfold zpz at h
   split at h
   ·rename_i w s
    obtain ⟨hs,h⟩:=zn h
    obtain ⟨ht,hf⟩:=zw h
    generalize e:decide (su w)=c at ht hf
    cases c
    ·have h:=hf rfl
     refine za ?_
     exact zd [] h
    ·have h:=ht rfl
     refine za ?_
     exact zd [0] h
   ·exact h.elim
def yg (k:Int):Prop:=k=20∨k=21∨k=22∨k=23
instance (k:Int):Decidable (yg k):=by unfold yg;exact inferInstance
def zy7:Spec:=fun args hp K=>match args,hp with
  | [.int k],[]=>K (.bool (decide (yg k))) []
  |_,_=>False
theorem z1o:zp prog 63 zy7:=by
  refine zm y6 zi rfl func63 rfl call63 (D:=ykd) ?_ ?_
  ·intro args hp K h
   unfold zy7 at h
   split at h
   ·exact Nat.le_of_ble_eq_true rfl
   ·exact h.elim
  ·intro args hp K h
   unfold zy7 at h
   split at h
   ·rename_i k
    have zej:k=20∨k=21∨k=22∨k=23∨(k≠20∧k≠21∧k≠22∧k≠23):=by omega
    rcases zej with h0|h0|h0|h0|⟨h0,h1,h2,h3⟩
    ·rw [decide_eq_true (show yg k by unfold yg;omega)] at h
     refine za ?_
     exact zd [] h
    ·rw [decide_eq_true (show yg k by unfold yg;omega)] at h
     refine za ?_
     exact zd [] h
    ·rw [decide_eq_true (show yg k by unfold yg;omega)] at h
     refine za ?_
     exact zd [] h
    ·rw [decide_eq_true (show yg k by unfold yg;omega)] at h
     refine za ?_
     exact zd [] h
    ·rw [decide_eq_false (show ¬yg k by unfold yg;omega)] at h
     refine za ?_
     exact zd [] h
   ·exact h.elim
def zoz (iv:List UInt8) (many:Int):Nat→List UInt8
  |0=>iv
  |i+1=>(zoz iv many i).set (12-1-i) ((zoz iv many i).getD (12-1-i) 0^^^UInt8.ofInt (many/ 2^(8*i)))
theorem zj7 (iv:List UInt8) (many:Int): ∀i,(zoz iv many i).length=iv.length
  |0=>rfl
  |i+1=>by simp only [zoz,List.length_set];exact zj7 iv many i
def ncF (iv:List UInt8) (many:Int):List UInt8:=zoz iv many 8
theorem zkk (iv:List UInt8) (many:Int):(ncF iv many).length=iv.length:=zj7 _ _ _
def zxk:Spec:=fun args hp K=>match args,hp with
  | [.ptr 0 0 0 []],[.mk t [.int w,.str key,.str iv,.int many]]=>Pre (iv.length=12) (K (.str (ncF iv many)) [.mk t [.int w,.str key,.str iv,.int many]])
  |_,_=>False
theorem z0s:zp prog 67 zxk:=by
  refine zm y6 zi rfl func67 rfl call67 (D:=yk9) ?_ ?_
  ·intro args hp K h
   unfold zxk at h
   split at h
   ·exact Nat.le_of_ble_eq_true rfl
   ·exact h.elim
  ·intro args hp K h
   unfold zxk at h
   split at h
   ·rename_i t w key iv many
    obtain ⟨hiv,h⟩:=zn h
    refine za ?_
    refine y3 fun tl=>?_
    refine za ?_
    refine zt (Ix (8)) (fun q=>⟨[(3,.sl 1 0 0 [] iv.length (iv.length+tl.length)),(10,.int q.i),(0,.ptr 0 0 0 [])],[.mk t [.int w,.str key,.str iv,.int many],.mk 5 [.arr8 (iv.length+tl.length) (zoz iv many q.i++tl)]]⟩) (fun q=>(8)-q.i) ⟨0,Nat.zero_le _⟩ [0,1] ?_ ?_
    ·exact zo
    ·intro q
     have hi:=q.hi
     have hl:=zj7 iv many q.i
     rw [hiv] at hl
     have hla:(zoz iv many q.i++tl).length=12+tl.length:=by rw [List.length_append,hl]
     have hof:off (yd [] ((iv.length:Int)-1-(q.i:Int)).toNat ty5.sz)=12-1-q.i:=by rw [zy];show 0+((iv.length:Int)-1-(q.i:Int)).toNat*1=_;omega
     have hk:(8*(q.i:Int)).toNat=8*q.i:=by omega
     by_cases h4:q.i<8
     ·refine za ?_
      refine ⟨⟨q.i+1,h4⟩,[0,1],by show (8)-(q.i+1)<(8)-q.i;omega,?_⟩
      repeat ((conv=>whnf);refine zb ?_)
      conv=>whnf
      exact zl (congrArg (fun x=>SV.agg [SV.arr8 (iv.length+tl.length) x]) (show _=zoz iv many (q.i+1)++tl by simp only [zoz];rw [hof,hk,List.set_append_left _ _ (by omega),List.getD_eq_getElem?_getD,List.getElem?_append_left (by omega),←List.getD_eq_getElem?_getD]))
     ·have e4:q.i=8:=by omega
      have hF:List.take iv.length (List.drop (off []) (zoz iv many 8++tl))=ncF iv many:=List.take_left' (zj7 iv many 8)
      rw [e4] at hla
      have hpo:off []+iv.length≤(zoz iv many 8++tl).length:=by rw [hla,hiv];show 0+12≤_;omega
      rw [e4]
      refine za ?_
      rw [hF]
      conv=>whnf
      exact zd [0] h
   ·exact h.elim
end Go.Sym.Z
