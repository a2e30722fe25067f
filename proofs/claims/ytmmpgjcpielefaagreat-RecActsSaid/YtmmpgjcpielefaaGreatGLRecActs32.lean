/-
  Contracts of functions of the program, each said of symbolic values, and plain laws; no condition beyond each statement's own.
-/
import Derived.Test.YtmmpgjcpielefaaGreatGLRecActs31
set_option linter.unusedSimpArgs false
set_option linter.unusedVariables false
namespace Go.Sym.Z
open Go Go.Proofs.Tryz Go.Sym.Lp Go.Sym.Gcm Go.Sym.Aes Go.Sym.Pol Go.Sym.Cha
set_option maxRecDepth 100000
attribute [local irreducible] za1 yv zg5 zev zfm xg
set_option maxHeartbeats 4000000 in
theorem yac:zp prog 121 zlu:=by
  refine zm yy (zc z7b (zc z66 (zc z5z zi))) rfl func121 rfl call121 (D:=yid) ?_ ?_
  ·intro args hp K h
   unfold zlu at h
   split at h
   ·exact Nat.le_of_ble_eq_true rfl
   ·exact h.elim
  ·intro args hp K h
   unfold zlu at h
   split at h
   ·rename_i w key nonce aad s
    obtain ⟨hs63,h⟩:=zn h
    obtain ⟨ht0,hn0⟩:=zw h
    have four:w=4865∨w=4866∨w=4867∨(w≠4865∧w≠4866∧w≠4867):=by omega
    by_cases h0:zd9 w key.length∧nonce.length=12∧aad.length≤65536∧(s.length:Int)-16≤65536
    ·have h:=ht0 (decide_eq_true h0)
     have hd:=decide_eq_true h0
     obtain ⟨hk,h1,h2,h3⟩:=h0
     unfold zd9 at hk
     unfold zau y0 at h
     by_cases h4:w=4867
     ·rw [if_pos h4,if_pos h4] at h
      obtain ⟨ht,hn⟩:=zw h
      have hpp:key.length=32∧nonce.length=12∧aad.length≤65536∧(s.length:Int)-16≤65536:=⟨by omega,h1,h2,h3⟩
      by_cases hq:16≤s.length∧yv key nonce aad (s.take (s.length-16))=s.drop (s.length-16)
      ·have h:=ht (decide_eq_true hq)
       have hdq:=decide_eq_true hq
       repeat ((conv=>whnf);first|refine zq ?_|refine zg ?_|refine zf ?_|refine zb ?_|refine zr (by first|exact hd|(rw [hd];rfl)|exact hdq) ?_|refine zj (by first|exact hd|(rw [hd];rfl)|exact hdq) ?_|refine zk (by first|exact hd|(rw [hd];rfl)|exact hdq) ?_)
       conv=>whnf
       exact zd [] h
      ·have h:=hn (decide_eq_false hq)
       have hdq:=decide_eq_false hq
       repeat ((conv=>whnf);first|refine zq ?_|refine zg ?_|refine zf ?_|refine zb ?_|refine zr (by first|exact hd|(rw [hd];rfl)|exact hdq) ?_|refine zj (by first|exact hd|(rw [hd];rfl)|exact hdq) ?_|refine zk (by first|exact hd|(rw [hd];rfl)|exact hdq) ?_)
       conv=>whnf
       exact zd [] h
     ·rw [if_neg h4,if_neg h4] at h
      obtain ⟨ht,hn⟩:=zw h
      have hpp:(key.length=16∨key.length=32)∧nonce.length=12∧aad.length≤65536∧(s.length:Int)-16≤65536:=⟨by omega,h1,h2,h3⟩
      by_cases hq:16≤s.length∧zev key nonce aad (s.take (s.length-16))=s.drop (s.length-16)
      ·have h:=ht (decide_eq_true hq)
       have hdq:=decide_eq_true hq
       repeat ((conv=>whnf);first|refine zq ?_|refine zg ?_|refine zf ?_|refine zb ?_|refine zr (by first|exact hd|(rw [hd];rfl)|exact hdq) ?_|refine zj (by first|exact hd|(rw [hd];rfl)|exact hdq) ?_|refine zk (by first|exact hd|(rw [hd];rfl)|exact hdq) ?_)
       conv=>whnf
       exact zd [] h
      ·have h:=hn (decide_eq_false hq)
       have hdq:=decide_eq_false hq
       repeat ((conv=>whnf);first|refine zq ?_|refine zg ?_|refine zf ?_|refine zb ?_|refine zr (by first|exact hd|(rw [hd];rfl)|exact hdq) ?_|refine zj (by first|exact hd|(rw [hd];rfl)|exact hdq) ?_|refine zk (by first|exact hd|(rw [hd];rfl)|exact hdq) ?_)
       conv=>whnf
       exact zd [] h
    ·have h:=hn0 (decide_eq_false h0)
     have hd:=decide_eq_false h0
     repeat ((conv=>whnf);first|refine zq ?_|refine zg ?_|refine zf ?_|refine zb ?_|refine zr (by first|exact hd|(rw [hd];rfl)) ?_|refine zj (by first|exact hd|(rw [hd];rfl)) ?_|refine zk (by first|exact hd|(rw [hd];rfl)) ?_)
     conv=>whnf
     exact zd [] h
   ·exact h.elim
end Go.Sym.Z

namespace Go.Sym.Z
open Go Go.Proofs.Tryz Go.Sym.Lp Go.Sym.Gcm Go.Sym.Aes Go.Sym.Pol Go.Sym.Cha
set_option maxRecDepth 100000
attribute [local irreducible] za1 yv zg5 zev zfm xg
def yln:List (Nat×List PStep):= [(1,[⟨0,[]⟩,⟨1,[]⟩,⟨3,[0,1]⟩,⟨4,[0,1]⟩,⟨2,[3,4]⟩,⟨5,[]⟩,⟨6,[]⟩])]
def yla:List (Nat×List PStep):= [(2,[⟨0,[]⟩,⟨1,[]⟩,⟨2,[0,1]⟩,⟨3,[0,1,2]⟩,⟨4,[0,1]⟩,⟨5,[]⟩])]
def yj0:List (Nat×List PStep):= []
def ylp:List (Nat×List PStep):= []
def yli:List (Nat×List PStep):= []
def yfn:List (Nat×TyI):= [(3,ty3),(4,ty4),(5,ty5),(9,ty9),(48,zd5),(51,zee),(168,zet),(113,xv),(99,xo),(183,zco),(186,zgd),(134,zgb),(178,zfc),(216,ze6),(214,zfl),(212,zfh),(132,zhe),(136,zgw)]
theorem zdz: ∀t i,xa yfn t=some i→yx prog t i:=(ze zcs (ze zc1 (ze zct (ze zcw (ze zbj (ze zbi (ze zj7 (ze zbg (ze zca (ze zw0 (ze zv4 (ze zvl (ze zoz (ze zns (ze zov (ze zpl (ze z63 (ze z7s zat))))))))))))))))))
def zi7:Spec:=fun args hp K=>match args,hp with
  | [.int w,.str key,.str nonce],[]=>zx (decide (w=4867)) (K (.agg [.str key,.str nonce,.nilptr]) [])
      (Pre (key.length=16∨key.length=32) (K (.agg [.str key,.str nonce,.ptr 0 0 0 []]) [.mk 186 [.ptr 1 0 0 [],.u64 (gH (gW key) (gR key)).1,.u64 (gH (gW key) (gR key)).2],.mk 216 [.arr8 256 box,.sl 2 0 0 [] (gR key) (gR key)],.mk 168 [.arr8 (16*gR key) (gW key)]]))
  |_,_=>False
theorem zvx:zp prog 90 zi7:=by
  refine zm zdz (zc zvm zi) rfl func90 rfl call90 (D:=yj0) ?_ ?_
  ·intro args hp K h
   unfold zi7 at h
   split at h
   ·exact Nat.le_of_ble_eq_true rfl
   ·exact h.elim
  ·intro args hp K h
   unfold zi7 at h
   split at h
   ·rename_i w key nonce
    obtain ⟨ht,hn⟩:=zw h
    by_cases h0:w=4867
    ·have h:=ht (decide_eq_true h0)
     refine za ?_
     exact zd [] h
    ·have h:=hn (decide_eq_false h0)
     obtain ⟨hk,h⟩:=zn h
     have hd:=decide_eq_true hk
     repeat ((conv=>whnf);first|refine zq ?_|refine zg ?_|refine zf ?_|refine zb ?_|refine zr (by first|exact hd) ?_|refine zj (by first|exact hd) ?_|refine zk (by first|exact hd) ?_)
     conv=>whnf
     exact zd [2,3,4] h
   ·exact h.elim
def z76:Spec:=fun args hp K=>match args,hp with
  | [.agg [.str key,.str nonce,.nilptr],.str aad,.sl 0 0 0 [] n c],[.mk t [.arr8 m l]]=>Pre (key.length=32∧nonce.length=12∧aad.length≤65536∧n≤65536∧n≤l.length∧n≤c) (K (.str (yv key nonce aad (l.take n))) [.mk t [.arr8 m l]])
  | [.agg [.str key,.str nonce,.ptr 0 0 0 []],.str aad,.sl 3 0 0 [] n c],[.mk t0 [.ptr 1 0 0 [],.u64 h1,.u64 h2],.mk t1 [.arr8 256 bx,.sl 2 0 0 [] R cR],.mk t2 [.arr8 N W],.mk t [.arr8 m l]]=>
      Pre (bx=box∧nonce.length=12∧1≤R∧R≤100∧16*R≤W.length∧n≤l.length∧n≤c∧aad.length≤65536∧n≤70000)
      (K (.str (gtg W R (h1,h2) nonce aad (l.take n))) [.mk t0 [.ptr 1 0 0 [],.u64 h1,.u64 h2],.mk t1 [.arr8 256 bx,.sl 2 0 0 [] R cR],.mk t2 [.arr8 N W],.mk t [.arr8 m l]])
  |_,_=>False
theorem ydf:zp prog 92 z76:=by
  refine zm zdz (zc z5u (zc z7r zi)) rfl func92 rfl call92 (D:=ylp) ?_ ?_
  ·intro args hp K h
   unfold z76 at h
   split at h
   ·exact Nat.le_of_ble_eq_true rfl
   ·exact Nat.le_of_ble_eq_true rfl
   ·exact h.elim
  ·intro args hp K h
   unfold z76 at h
   split at h
   ·obtain ⟨hp,h⟩:=zn h
    refine za ?_
    exact zd [0] h
   ·obtain ⟨hp,h⟩:=zn h
    refine za ?_
    exact zd [0,1,2,3] h
   ·exact h.elim
def z9j:Spec:=fun args hp K=>match args,hp with
  | [.agg [.str key,.str nonce,.nilptr],.sl 0 0 0 [] n cap],[.mk t [.arr8 m l]]=>Pre (key.length=32∧nonce.length=12∧n≤l.length∧n≤cap∧n≤9223372036854775807)
      (K (.tup []) [.mk t [.arr8 m (xg key nonce (UInt32.ofInt 1) (l.take n)++l.drop n)]])
  | [.agg [.str key,.str nonce,.ptr 0 0 0 []],.sl 3 0 0 [] n cap],[.mk t0 [.ptr 1 0 0 [],.u64 h1,.u64 h2],.mk t1 [.arr8 256 bx,.sl 2 0 0 [] R c],.mk t2 [.arr8 N W],.mk t [.arr8 m l]]=>
      Pre (bx=box∧nonce.length=12∧1≤R∧R≤100∧16*R≤W.length∧n≤l.length∧n≤cap∧n≤9223372036854775807)
      (K (.tup []) [.mk t0 [.ptr 1 0 0 [],.u64 h1,.u64 h2],.mk t1 [.arr8 256 bx,.sl 2 0 0 [] R c],.mk t2 [.arr8 N W],.mk t [.arr8 m (gst W R nonce 2 (l.take n)++l.drop n)]])
  |_,_=>False
theorem yee:zp prog 91 z9j:=by
  refine zm zdz (zc z1o (zc z8b zi)) rfl func91 rfl call91 (D:=yli) ?_ ?_
  ·intro args hp K h
   unfold z9j at h
   split at h
   ·exact Nat.le_of_ble_eq_true rfl
   ·exact Nat.le_of_ble_eq_true rfl
   ·exact h.elim
  ·intro args hp K h
   unfold z9j at h
   split at h
   ·obtain ⟨hp,h⟩:=zn h
    refine za ?_
    exact zd [0] h
   ·obtain ⟨hp,h⟩:=zn h
    refine za ?_
    exact zd [0,1,2,3] h
   ·exact h.elim
end Go.Sym.Z

namespace Go.Sym.Z
open Go Go.Proofs.Tryz Go.Sym.Lp Go.Sym.Gcm Go.Sym.Aes Go.Sym.Pol Go.Sym.Cha
set_option maxRecDepth 100000
attribute [local irreducible] za1 yv zg5 zev zfm xg zau y0 gst gtg gW gR gH
def ykb:List (Nat×List PStep):= [(7,[⟨0,[]⟩,⟨1,[0]⟩,⟨2,[0,1]⟩,⟨3,[0]⟩,⟨4,[]⟩]),(8,[⟨0,[]⟩,⟨1,[0]⟩,⟨2,[]⟩,⟨3,[0,1,2]⟩,⟨4,[0,1,2,3]⟩,⟨5,[0,1,2,3,4]⟩,⟨6,[0,1,2,3,4,5]⟩,⟨7,[0,1,2,3,4]⟩,⟨8,[0,1,2]⟩,⟨9,[]⟩])]
def zoi (w:Int) (key nonce aad:List UInt8) (long:Int):Prop:=zd9 w key.length∧nonce.length=12∧aad.length≤65536∧long≤65536
instance (w:Int) (key nonce aad:List UInt8) (long:Int):Decidable (zoi w key nonce aad long):=by unfold zoi;exact inferInstance
end Go.Sym.Z

namespace Go.Sym.Z
open Go Go.Proofs.Tryz Go.Sym.Lp Go.Sym.Gcm Go.Sym.Aes Go.Sym.Pol Go.Sym.Cha
set_option maxRecDepth 100000
attribute [local irreducible] za1 yv zg5 zev zfm xg zau y0 gst gtg gW gR gH xi
end Go.Sym.Z

namespace Go.Sym.Z
open Go Go.Proofs.Tryz Go.Sym.Lp Go.Sym.Cha Go.Sym.Sha Go.Sym.Hk
set_option maxRecDepth 100000
attribute [local irreducible] za2 exF
def yhq:List (Nat×List PStep):= []
def ykt:List (Nat×List PStep):= []
def yk5:List (Nat×List PStep):= []
def yj4:List (Nat×List PStep):= []
def ykh:List (Nat×List PStep):= [(5,[⟨0,[]⟩,⟨1,[0]⟩,⟨2,[0]⟩,⟨3,[0]⟩,⟨4,[0,1,2,3]⟩,⟨5,[0]⟩,⟨6,[]⟩,⟨7,[]⟩,⟨8,[0,1,2,3,4,5,6,7]⟩,⟨9,[0,1,2,3,4,5,6,7]⟩,⟨10,[0,1,2,3,4,5,6,7]⟩,⟨11,[0,1,2,3,4,5,6,7]⟩,⟨12,[0,1,2,3,4,5,6,7,8,9,10,11]⟩,⟨13,[0,1,2,3,4,5,6,7,8,9,10,11]⟩,⟨14,[0,1,2,3,4,5,6,7]⟩,⟨15,[0,1,2,3,4,5,6,7]⟩,⟨16,[]⟩,⟨17,[]⟩,⟨18,[]⟩])]
def ylo:List (Nat×List PStep):= []
def yis:List (Nat×TyI):= [(3,ty3),(4,ty4),(5,ty5),(9,ty9),(48,zd5),(51,zee),(113,xv),(99,xo),(103,zfk),(68,zll),(70,zld),(104,ze4),(74,zl6),(23,zl8),(43,zjw)]
theorem y6: ∀t i,xa yis t=some i→yx prog t i:=(ze zcs (ze zc1 (ze zct (ze zcw (ze zbj (ze zbi (ze zbg (ze zca (ze zol (ze zsw (ze zus (ze zo2 (ze zst (ze ztb (ze zm9 zat)))))))))))))))
def su (w:Int):Prop:=w=4865∨w=4866∨w=4867
instance (w:Int):Decidable (su w):=by unfold su;exact inferInstance
def hB (w:Int):Int:=if w=4866 then 384 else 256
theorem z07 (w:Int):hB w=256∨hB w=384:=by unfold hB;split<;>simp
def zsb:Spec:=fun args hp K=>match args,hp with
  | [.int w],[]=>zx (decide (su w)) (K (.tup [.int (hB w),.int 0]) []) (K (.tup [.int 0,.int 1900]) [])
  |_,_=>False
theorem yam:zp prog 113 zsb:=by
  refine zm y6 (zc zt4 zi) rfl func113 rfl call113 (D:=yhq) ?_ ?_
  ·intro args hp K h
   unfold zsb at h
   split at h
   ·exact Nat.le_of_ble_eq_true rfl
   ·exact h.elim
  ·intro args hp K h
   unfold zsb at h
   split at h
   ·rename_i w
    obtain ⟨ht,hf⟩:=zw h
    have four:w=4865∨w=4866∨w=4867∨(w≠4865∧w≠4866∧w≠4867):=by omega
    rcases four with h0|h0|h0|⟨h0,h1,h2⟩
    ·have h:=ht (decide_eq_true (.inl h0))
     rw [show hB w=256 by unfold hB;rw [if_neg (by omega)]] at h
     refine za ?_
     exact zd [] h
    ·have h:=ht (decide_eq_true (.inr (.inl h0)))
     rw [show hB w=384 by unfold hB;rw [if_pos h0]] at h
     refine za ?_
     exact zd [] h
    ·have h:=ht (decide_eq_true (.inr (.inr h0)))
     rw [show hB w=256 by unfold hB;rw [if_neg (by omega)]] at h
     refine za ?_
     exact zd [] h
    ·have h:=hf (decide_eq_false (by unfold su;omega))
     refine za ?_
     exact zd [] h
   ·exact h.elim
def zia:Spec:=fun args hp K=>match args,hp with
  | [.int w,.str key,.str label,.str ctx,.int size],[]=>Pre (key.length≤140737488351232∧label.length≤100∧ctx.length≤255∧0≤size∧size≤1000)
      (zx (decide (su w)) (K (.tup [.str (za2 (hB w) key label ctx size.toNat),.int 0]) []) (K (.tup [.str [],.int 1900]) []))
  |_,_=>False
theorem z8m:zp prog 86 zia:=by
  refine zm y6 (zc yam (zc z96 zi)) rfl func86 rfl call86 (D:=ykt) ?_ ?_
  ·intro args hp K h
   unfold zia at h
   split at h
   ·exact Nat.le_of_ble_eq_true rfl
   ·exact h.elim
  ·intro args hp K h
   unfold zia at h
   split at h
   ·rename_i w key label ctx size
    obtain ⟨⟨hk,hl,hc,hs0,hs⟩,h⟩:=zn h
    obtain ⟨ht,hf⟩:=zw h
    have hp:(hB w=256∨hB w=384)∧key.length≤140737488351232∧label.length≤100∧ctx.length≤255∧0≤size∧size≤1000:=⟨z07 w,hk,hl,hc,hs0,hs⟩
    generalize e:decide (su w)=c at ht hf
    cases c
    ·have h:=hf rfl
     refine za ?_
     exact zd [] h
    ·have h:=ht rfl
     refine za ?_
     exact zd [] h
   ·exact h.elim
def aSz (w:Int):Nat:=if w=4865 then 16 else 32
def kyF (w:Int) (s:List UInt8):List UInt8:=za2 (hB w) s [107,101,121] [] (aSz w)
def ivF (w:Int) (s:List UInt8):List UInt8:=za2 (hB w) s [105,118] [] 12
theorem znk (w:Int) (s:List UInt8):(kyF w s).length=aSz w:=zu2 (z07 w) _ _ _ _
theorem znd (w:Int) (s:List UInt8):(ivF w s).length=12:=zu2 (z07 w) _ _ _ _
def zry:Spec:=fun args hp K=>match args,hp with
  | [.int w,.str s],[]=>Pre (s.length≤140737488351232)
      (zx (decide (su w)) (K (.tup [.str (kyF w s),.str (ivF w s),.int 0]) []) (K (.tup [.str [],.str [],.int 1900]) []))
  |_,_=>False
theorem ydt:zp prog 62 zry:=by
  refine zm y6 (zc zt4 (zc z8m zi)) rfl func62 rfl call62 (D:=yk5) ?_ ?_
  ·intro args hp K h
   unfold zry at h
   split at h
   ·exact Nat.le_of_ble_eq_true rfl
   ·exact h.elim
  ·intro args hp K h
   unfold zry at h
   split at h
   ·rename_i w s
    obtain ⟨hs,h⟩:=zn h
    obtain ⟨ht,hf⟩:=zw h
    have four:w=4865∨w=4866∨w=4867∨(w≠4865∧w≠4866∧w≠4867):=by omega
    rcases four with h0|h0|h0|⟨h0,h1,h2⟩
    ·have hd:decide (su w)=true:=decide_eq_true (.inl h0)
     have h:=ht hd
     rw [show kyF w s=za2 (hB w) s [107,101,121] [] (Int.toNat 16) by unfold kyF aSz;rw [if_pos h0];rfl,show ivF w s=za2 (hB w) s [105,118] [] (Int.toNat 12) by unfold ivF;rfl] at h
     refine za ?_
     exact zd [] h
    ·have hd:decide (su w)=true:=decide_eq_true (.inr (.inl h0))
     have h:=ht hd
     rw [show kyF w s=za2 (hB w) s [107,101,121] [] (Int.toNat 32) by unfold kyF aSz;rw [if_neg (by omega)];rfl,show ivF w s=za2 (hB w) s [105,118] [] (Int.toNat 12) by unfold ivF;rfl] at h
     refine za ?_
     exact zd [] h
    ·have hd:decide (su w)=true:=decide_eq_true (.inr (.inr h0))
     have h:=ht hd
     rw [show kyF w s=za2 (hB w) s [107,101,121] [] (Int.toNat 32) by unfold kyF aSz;rw [if_neg (by omega)];rfl,show ivF w s=za2 (hB w) s [105,118] [] (Int.toNat 12) by unfold ivF;rfl] at h
     refine za ?_
     exact zd [] h
    ·have hd:decide (su w)=false:=decide_eq_false (by unfold su;omega)
     have h:=hf hd
     refine za ?_
     exact zd [] h
   ·exact h.elim
attribute [local irreducible] kyF ivF
def zqd:Spec:=fun args hp K=>match args,hp with
  | [.int w,.str s],[]=>Pre (s.length≤140737488351232)
      (zx (decide (su w)) (K (.tup [.ptr 0 0 0 [],.int 0]) [.mk 103 [.int w,.str (kyF w s),.str (ivF w s),.int 0]]) (K (.tup [.nilptr,.int 2100]) []))
  |_,_=>False
theorem zq2:zp prog 42 zqd:=by
  refine zm y6 (zc ydt zi) rfl func42 rfl call42 (D:=yj4) ?_ ?_
  ·intro args hp K h
   unfold zqd at h
   split at h
   ·exact Nat.le_of_ble_eq_true rfl
   ·exact h.elim
  ·intro args hp K h
   unfold zqd at h
   split at h
   ·rename_i w s
    obtain ⟨hs,h⟩:=zn h
    obtain ⟨ht,hf⟩:=zw h
    generalize e:decide (su w)=c at ht hf
    cases c
    ·have h:=hf rfl
     refine za ?_
     exact zd [] h
    ·have h:=ht rfl
     refine za ?_
     exact zd [0] h
   ·exact h.elim
def yf (k:Int):Prop:=k=20∨k=21∨k=22∨k=23
instance (k:Int):Decidable (yf k):=by unfold yf;exact inferInstance
def zxz:Spec:=fun args hp K=>match args,hp with
  | [.int k],[]=>K (.bool (decide (yf k))) []
  |_,_=>False
theorem z1n:zp prog 63 zxz:=by
  refine zm y6 zi rfl func63 rfl call63 (D:=ylo) ?_ ?_
  ·intro args hp K h
   unfold zxz at h
   split at h
   ·exact Nat.le_of_ble_eq_true rfl
   ·exact h.elim
  ·intro args hp K h
   unfold zxz at h
   split at h
   ·rename_i k
    have zek:k=20∨k=21∨k=22∨k=23∨(k≠20∧k≠21∧k≠22∧k≠23):=by omega
    rcases zek with h0|h0|h0|h0|⟨h0,h1,h2,h3⟩
    ·rw [decide_eq_true (show yf k by unfold yf;omega)] at h
     refine za ?_
     exact zd [] h
    ·rw [decide_eq_true (show yf k by unfold yf;omega)] at h
     refine za ?_
     exact zd [] h
    ·rw [decide_eq_true (show yf k by unfold yf;omega)] at h
     refine za ?_
     exact zd [] h
    ·rw [decide_eq_true (show yf k by unfold yf;omega)] at h
     refine za ?_
     exact zd [] h
    ·rw [decide_eq_false (show ¬yf k by unfold yf;omega)] at h
     refine za ?_
     exact zd [] h
   ·exact h.elim
def znv (iv:List UInt8) (many:Int):Nat→List UInt8
  |0=>iv
  |i+1=>(znv iv many i).set (12-1-i) ((znv iv many i).getD (12-1-i) 0^^^UInt8.ofInt (many/ 2^(8*i)))
theorem zj8 (iv:List UInt8) (many:Int): ∀i,(znv iv many i).length=iv.length
  |0=>rfl
  |i+1=>by simp only [znv,List.length_set];exact zj8 iv many i
def ncF (iv:List UInt8) (many:Int):List UInt8:=znv iv many 8
theorem zk3 (iv:List UInt8) (many:Int):(ncF iv many).length=iv.length:=zj8 _ _ _
def zzp:Spec:=fun args hp K=>match args,hp with
  | [.ptr 0 0 0 []],[.mk t [.int w,.str key,.str iv,.int many]]=>Pre (iv.length=12) (K (.str (ncF iv many)) [.mk t [.int w,.str key,.str iv,.int many]])
  |_,_=>False
theorem z0k:zp prog 67 zzp:=by
  refine zm y6 zi rfl func67 rfl call67 (D:=ykh) ?_ ?_
  ·intro args hp K h
   unfold zzp at h
   split at h
   ·exact Nat.le_of_ble_eq_true rfl
   ·exact h.elim
  ·intro args hp K h
   unfold zzp at h
   split at h
   ·rename_i t w key iv many
    obtain ⟨hiv,h⟩:=zn h
    refine za ?_
    refine y3 fun tl=>?_
    refine za ?_
    refine zt (Ix (8)) (fun q=>⟨[(3,.sl 1 0 0 [] iv.length (iv.length+tl.length)),(10,.int q.i),(0,.ptr 0 0 0 [])],[.mk t [.int w,.str key,.str iv,.int many],.mk 5 [.arr8 (iv.length+tl.length) (znv iv many q.i++tl)]]⟩) (fun q=>(8)-q.i) ⟨0,Nat.zero_le _⟩ [0,1] ?_ ?_
    ·exact zo
    ·intro q
     have hi:=q.hi
     have hl:=zj8 iv many q.i
     rw [hiv] at hl
     have hla:(znv iv many q.i++tl).length=12+tl.length:=by rw [List.length_append,hl]
     have hof:off (yd [] ((iv.length:Int)-1-(q.i:Int)).toNat ty5.sz)=12-1-q.i:=by rw [zy];show 0+((iv.length:Int)-1-(q.i:Int)).toNat*1=_;omega
     have hk:(8*(q.i:Int)).toNat=8*q.i:=by omega
     by_cases h4:q.i<8
     ·refine za ?_
      refine ⟨⟨q.i+1,h4⟩,[0,1],by show (8)-(q.i+1)<(8)-q.i;omega,?_⟩
      repeat ((conv=>whnf);refine zb ?_)
      conv=>whnf
      exact zl (congrArg (fun x=>SV.agg [SV.arr8 (iv.length+tl.length) x]) (show _=znv iv many (q.i+1)++tl by simp only [znv];rw [hof,hk,List.set_append_left _ _ (by omega),List.getD_eq_getElem?_getD,List.getElem?_append_left (by omega),←List.getD_eq_getElem?_getD]))
     ·have e4:q.i=8:=by omega
      have hF:List.take iv.length (List.drop (off []) (znv iv many 8++tl))=ncF iv many:=List.take_left' (zj8 iv many 8)
      rw [e4] at hla
      have hpo:off []+iv.length≤(znv iv many 8++tl).length:=by rw [hla,hiv];show 0+12≤_;omega
      rw [e4]
      refine za ?_
      rw [hF]
      conv=>whnf
      exact zd [0] h
   ·exact h.elim
end Go.Sym.Z
