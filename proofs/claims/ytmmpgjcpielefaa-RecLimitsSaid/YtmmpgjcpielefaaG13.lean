/-
  Contracts of functions of the program, each said of symbolic values, and plain laws; no condition beyond each statement's own.
-/
import Derived.Test.YtmmpgjcpielefaaG12
set_option linter.unusedSimpArgs false
set_option linter.unusedVariables false
namespace Go.Sym.A
open Go Go.Proofs.Try Go.Sym.Lp Go.Sym.Gcm Go.Sym.Aes Go.Sym.Pol Go.Sym.Cha
set_option maxRecDepth 100000
attribute [local irreducible] zbr yr zjg zgg zfu xo
set_option maxHeartbeats 4000000 in
theorem z2o:zp prog 15 zsd:=by
  refine zo xk (zd z0b (zd z0g (zd zxo zk))) rfl func15 rfl call15 (D:=z9h) ?_ ?_
  ·intro args hp K h
   unfold zsd at h
   split at h
   ·exact Nat.le_of_ble_eq_true rfl
   ·exact h.elim
  ·intro args hp K h
   unfold zsd at h
   split at h
   ·rename_i w key nonce aad s
    obtain ⟨hs63,h⟩:=zl h
    obtain ⟨ht0,hn0⟩:=zu h
    have four:w=4865∨w=4866∨w=4867∨(w≠4865∧w≠4866∧w≠4867):=by omega
    by_cases h0:zf9 w key.length∧nonce.length=12∧aad.length≤65536∧(s.length:Int)-16≤65536
    ·have h:=ht0 (decide_eq_true h0)
     have hd:=decide_eq_true h0
     obtain ⟨hk,h1,h2,h3⟩:=h0
     unfold zf9 at hk
     unfold zap yv at h
     by_cases h4:w=4867
     ·rw [if_pos h4,if_pos h4] at h
      obtain ⟨ht,hn⟩:=zu h
      have hpp:key.length=32∧nonce.length=12∧aad.length≤65536∧(s.length:Int)-16≤65536:=⟨by omega,h1,h2,h3⟩
      by_cases hq:16≤s.length∧yr key nonce aad (s.take (s.length-16))=s.drop (s.length-16)
      ·have h:=ht (decide_eq_true hq)
       have hdq:=decide_eq_true hq
       repeat ((conv=>whnf);first|refine zn ?_|refine zf ?_|refine zg ?_|refine za ?_|refine zq (by first|exact hd|(rw [hd];rfl)|exact hdq) ?_|refine zi (by first|exact hd|(rw [hd];rfl)|exact hdq) ?_|refine zj (by first|exact hd|(rw [hd];rfl)|exact hdq) ?_)
       conv=>whnf
       exact ze (hp':= []) [] h
      ·have h:=hn (decide_eq_false hq)
       have hdq:=decide_eq_false hq
       repeat ((conv=>whnf);first|refine zn ?_|refine zf ?_|refine zg ?_|refine za ?_|refine zq (by first|exact hd|(rw [hd];rfl)|exact hdq) ?_|refine zi (by first|exact hd|(rw [hd];rfl)|exact hdq) ?_|refine zj (by first|exact hd|(rw [hd];rfl)|exact hdq) ?_)
       conv=>whnf
       exact ze (hp':= []) [] h
     ·rw [if_neg h4,if_neg h4] at h
      obtain ⟨ht,hn⟩:=zu h
      have hpp:(key.length=16∨key.length=32)∧nonce.length=12∧aad.length≤65536∧(s.length:Int)-16≤65536:=⟨by omega,h1,h2,h3⟩
      by_cases hq:16≤s.length∧zgg key nonce aad (s.take (s.length-16))=s.drop (s.length-16)
      ·have h:=ht (decide_eq_true hq)
       have hdq:=decide_eq_true hq
       repeat ((conv=>whnf);first|refine zn ?_|refine zf ?_|refine zg ?_|refine za ?_|refine zq (by first|exact hd|(rw [hd];rfl)|exact hdq) ?_|refine zi (by first|exact hd|(rw [hd];rfl)|exact hdq) ?_|refine zj (by first|exact hd|(rw [hd];rfl)|exact hdq) ?_)
       conv=>whnf
       exact ze (hp':= []) [] h
      ·have h:=hn (decide_eq_false hq)
       have hdq:=decide_eq_false hq
       repeat ((conv=>whnf);first|refine zn ?_|refine zf ?_|refine zg ?_|refine za ?_|refine zq (by first|exact hd|(rw [hd];rfl)|exact hdq) ?_|refine zi (by first|exact hd|(rw [hd];rfl)|exact hdq) ?_|refine zj (by first|exact hd|(rw [hd];rfl)|exact hdq) ?_)
       conv=>whnf
       exact ze (hp':= []) [] h
    ·have h:=hn0 (decide_eq_false h0)
     have hd:=decide_eq_false h0
     repeat ((conv=>whnf);first|refine zn ?_|refine zf ?_|refine zg ?_|refine za ?_|refine zq (by first|exact hd|(rw [hd];rfl)) ?_|refine zi (by first|exact hd|(rw [hd];rfl)) ?_|refine zj (by first|exact hd|(rw [hd];rfl)) ?_)
     conv=>whnf
     exact ze (hp':= []) [] h
   ·exact h.elim
end Go.Sym.A

namespace Go.Sym.A
open Go Go.Proofs.Try Go.Sym.Lp Go.Sym.Gcm Go.Sym.Aes Go.Sym.Pol Go.Sym.Cha
set_option maxRecDepth 100000
attribute [local irreducible] zbr yr zjg zgg zfu xo
def z9j:List (Nat×List PStep):= [(1,[⟨0,[]⟩,⟨1,[]⟩,⟨3,[0,1]⟩,⟨4,[0,1]⟩,⟨2,[3,4]⟩,⟨5,[]⟩,⟨6,[]⟩])]
def z9u:List (Nat×List PStep):= [(2,[⟨0,[]⟩,⟨1,[]⟩,⟨2,[0,1]⟩,⟨3,[0,1,2]⟩,⟨4,[0,1]⟩,⟨5,[]⟩])]
def z89:List (Nat×List PStep):= []
def z71:List (Nat×List PStep):= []
def z8f:List (Nat×List PStep):= []
def z31:List (Nat×TyI):= [(3,ty3),(4,ty4),(5,ty5),(9,ty9),(34,zdh),(35,zdd),(103,zcq),(93,zb7),(91,x4),(106,za9),(109,zee),(67,zjk),(100,zdn),(147,zdb),(145,zc5),(143,zds),(65,zl2),(69,zkf)]
theorem zca: ∀t i,yw z31 t=some i→yp prog t i:=(zc ty3_ok (zc zc3 (zc zcz (zc ty9_ok (zc zbh (zc zbl (zc zgz (zc zcx (zc zcy (zc zqa (zc zqh (zc zuz (zc zln (zc zk7 (zc zku (zc zl1 (zc z2l (zc z1l zao))))))))))))))))))
def zgk:Spec:=fun args hp K=>match args,hp with
  | [.int w,.str key,.str nonce],[]=>zr (decide (w=4867)) (K (.agg [.str key,.str nonce,.nilptr]) [])
      (Pre (key.length=16∨key.length=32) (K (.agg [.str key,.str nonce,.ptr 0 0 0 []]) [.mk 109 [.ptr 1 0 0 [],.u64 (gH (gW key) (gR key)).1,.u64 (gH (gW key) (gR key)).2],.mk 147 [.arr8 256 box,.sl 2 0 0 [] (gR key) (gR key)],.mk 103 [.arr8 (16*gR key) (gW key)]]))
  |_,_=>False
theorem zru:zp prog 41 zgk:=by
  refine zo zca (zd zqo zk) rfl func41 rfl call41 (D:=z89) ?_ ?_
  ·intro args hp K h
   unfold zgk at h
   split at h
   ·exact Nat.le_of_ble_eq_true rfl
   ·exact h.elim
  ·intro args hp K h
   unfold zgk at h
   split at h
   ·rename_i w key nonce
    obtain ⟨ht,hn⟩:=zu h
    by_cases h0:w=4867
    ·have h:=ht (decide_eq_true h0)
     refine wk ?_
     exact ze (hp':= []) [] h
    ·have h:=hn (decide_eq_false h0)
     obtain ⟨hk,h⟩:=zl h
     have hd:=decide_eq_true hk
     repeat ((conv=>whnf);first|refine zn ?_|refine zf ?_|refine zg ?_|refine za ?_|refine zq (by first|exact hd) ?_|refine zi (by first|exact hd) ?_|refine zj (by first|exact hd) ?_)
     conv=>whnf
     exact ze (hp':= [.mk 109 [.ptr 1 0 0 [],.u64 (gH (gW key) (gR key)).1,.u64 (gH (gW key) (gR key)).2],.mk 147 [.arr8 256 box,.sl 2 0 0 [] (gR key) (gR key)],.mk 103 [.arr8 (16*gR key) (gW key)]]) [2,3,4] h
   ·exact h.elim
def zw8:Spec:=fun args hp K=>match args,hp with
  | [.agg [.str key,.str nonce,.nilptr],.str aad,.sl 0 0 0 [] n c],[.mk t [.arr8 m l]]=>Pre (key.length=32∧nonce.length=12∧aad.length≤65536∧n≤65536∧n≤l.length∧n≤c) (K (.str (yr key nonce aad (l.take n))) [.mk t [.arr8 m l]])
  | [.agg [.str key,.str nonce,.ptr 0 0 0 []],.str aad,.sl 3 0 0 [] n c],[.mk t0 [.ptr 1 0 0 [],.u64 h1,.u64 h2],.mk t1 [.arr8 256 bx,.sl 2 0 0 [] R cR],.mk t2 [.arr8 N W],.mk t [.arr8 m l]]=>
      Pre (bx=box∧nonce.length=12∧1≤R∧R≤100∧16*R≤W.length∧n≤l.length∧n≤c∧aad.length≤65536∧n≤70000)
      (K (.str (gtg W R (h1,h2) nonce aad (l.take n))) [.mk t0 [.ptr 1 0 0 [],.u64 h1,.u64 h2],.mk t1 [.arr8 256 bx,.sl 2 0 0 [] R cR],.mk t2 [.arr8 N W],.mk t [.arr8 m l]])
  |_,_=>False
theorem z45:zp prog 42 zw8:=by
  refine zo zca (zd zzb (zd z01 zk)) rfl func42 rfl call42 (D:=z71) ?_ ?_
  ·intro args hp K h
   unfold zw8 at h
   split at h
   ·exact Nat.le_of_ble_eq_true rfl
   ·exact Nat.le_of_ble_eq_true rfl
   ·exact h.elim
  ·intro args hp K h
   unfold zw8 at h
   split at h
   ·obtain ⟨hp,h⟩:=zl h
    refine wk ?_
    exact ze (hp':= [.mk _ [.arr8 _ _]]) [0] h
   ·obtain ⟨hp,h⟩:=zl h
    refine wk ?_
    exact ze (hp':= [.mk _ [.ptr 1 0 0 [],.u64 _,.u64 _],.mk _ [.arr8 256 _,.sl 2 0 0 [] _ _],.mk _ [.arr8 _ _],.mk _ [.arr8 _ _]]) [0,1,2,3] h
   ·exact h.elim
def z0y:Spec:=fun args hp K=>match args,hp with
  | [.agg [.str key,.str nonce,.nilptr],.sl 0 0 0 [] n cap],[.mk t [.arr8 m l]]=>Pre (key.length=32∧nonce.length=12∧n≤l.length∧n≤cap∧n≤9223372036854775807)
      (K (.tup []) [.mk t [.arr8 m (xo key nonce (UInt32.ofInt 1) (l.take n)++l.drop n)]])
  | [.agg [.str key,.str nonce,.ptr 0 0 0 []],.sl 3 0 0 [] n cap],[.mk t0 [.ptr 1 0 0 [],.u64 h1,.u64 h2],.mk t1 [.arr8 256 bx,.sl 2 0 0 [] R c],.mk t2 [.arr8 N W],.mk t [.arr8 m l]]=>
      Pre (bx=box∧nonce.length=12∧1≤R∧R≤100∧16*R≤W.length∧n≤l.length∧n≤cap∧n≤9223372036854775807)
      (K (.tup []) [.mk t0 [.ptr 1 0 0 [],.u64 h1,.u64 h2],.mk t1 [.arr8 256 bx,.sl 2 0 0 [] R c],.mk t2 [.arr8 N W],.mk t [.arr8 m (gst W R nonce 2 (l.take n)++l.drop n)]])
  |_,_=>False
theorem z4e:zp prog 43 z0y:=by
  refine zo zca (zd zur (zd zy7 zk)) rfl func43 rfl call43 (D:=z8f) ?_ ?_
  ·intro args hp K h
   unfold z0y at h
   split at h
   ·exact Nat.le_of_ble_eq_true rfl
   ·exact Nat.le_of_ble_eq_true rfl
   ·exact h.elim
  ·intro args hp K h
   unfold z0y at h
   split at h
   ·obtain ⟨hp,h⟩:=zl h
    refine wk ?_
    exact ze (hp':= [.mk _ [.arr8 _ _]]) [0] h
   ·obtain ⟨hp,h⟩:=zl h
    refine wk ?_
    exact ze (hp':= [.mk _ [.ptr 1 0 0 [],.u64 _,.u64 _],.mk _ [.arr8 256 _,.sl 2 0 0 [] _ _],.mk _ [.arr8 _ _],.mk _ [.arr8 _ _]]) [0,1,2,3] h
   ·exact h.elim
end Go.Sym.A

namespace Go.Sym.A
open Go Go.Proofs.Try Go.Sym.Lp Go.Sym.Gcm Go.Sym.Aes Go.Sym.Pol Go.Sym.Cha
set_option maxRecDepth 100000
attribute [local irreducible] zbr yr zjg zgg zfu xo zap yv gst gtg gW gR gH
def z87:List (Nat×List PStep):= [(7,[⟨0,[]⟩,⟨1,[0]⟩,⟨2,[0,1]⟩,⟨3,[0]⟩,⟨4,[]⟩]),(8,[⟨0,[]⟩,⟨1,[0]⟩,⟨2,[]⟩,⟨3,[0,1,2]⟩,⟨4,[0,1,2,3]⟩,⟨5,[0,1,2,3,4]⟩,⟨6,[0,1,2,3,4,5]⟩,⟨7,[0,1,2,3,4]⟩,⟨8,[0,1,2]⟩,⟨9,[]⟩])]
def zkq (w:Int) (key nonce aad:List UInt8) (long:Int):Prop:=zf9 w key.length∧nonce.length=12∧aad.length≤65536∧long≤65536
instance (w:Int) (key nonce aad:List UInt8) (long:Int):Decidable (zkq w key nonce aad long):=by unfold zkq;exact inferInstance
end Go.Sym.A

namespace Go.Sym.A
open Go Go.Proofs.Try Go.Sym.Lp Go.Sym.Gcm Go.Sym.Aes Go.Sym.Pol Go.Sym.Cha
set_option maxRecDepth 100000
attribute [local irreducible] zbr yr zjg zgg zfu xo zap yv gst gtg gW gR gH xl
end Go.Sym.A

namespace Go.Sym.Sha
open Go.Sym.Lp Go.Sym.Cha
def zko (x:UInt64) (n:Nat):UInt64:=x<<<UInt64.ofNat n|||x>>>UInt64.ofNat (64-n)
def g64 (x:List UInt64) (i:Nat):UInt64:=x.getD i 0
def zgy (b:List UInt8):Nat→UInt64
  |0=>0
  |i+1=>zgy b i<<<8|||(b.getD i 0).toUInt64
def num (b:List UInt8):UInt64:=zgy b b.length
def s0 (x:UInt32):UInt32:=zi1 x 25^^^zi1 x 14^^^x>>>3
def s1 (y:UInt32):UInt32:=zi1 y 15^^^zi1 y 13^^^y>>>10
def x7 (b:List UInt8):Nat→List UInt32
  |0=>List.replicate 64 0
  |i+1=>(x7 b i).set i (if i<16 then (num ((b.drop (4*i)).take 4)).toUInt32 else
    g32 (x7 b i) (i-16)+g32 (x7 b i) (i-7)+s0 (g32 (x7 b i) (i-15))+s1 (g32 (x7 b i) (i-2)))
theorem znb (b:List UInt8): ∀i,(x7 b i).length=64
  |0=>rfl
  |i+1=>by simp only [x7,List.length_set];exact znb b i
theorem z40 {b:List UInt8} {i:Nat} (h:i<16):x7 b (i+1)=(x7 b i).set i (num ((b.drop (4*i)).take 4)).toUInt32:=by simp only [x7];rw [if_pos h]
theorem z4s {b:List UInt8} {i:Nat} (h: ¬i<16):x7 b (i+1)=(x7 b i).set i (g32 (x7 b i) (i-16)+g32 (x7 b i) (i-7)+s0 (g32 (x7 b i) (i-15))+s1 (g32 (x7 b i) (i-2))):=by simp only [x7];rw [if_neg h]
def z55 (s:List UInt32) (k w:UInt32):List UInt32:=
  let e:=g32 s 4;let a:=g32 s 0
  let t:=g32 s 7+(zi1 e 26^^^zi1 e 21^^^zi1 e 7)+(e&&&g32 s 5^^^ ~~~e&&&g32 s 6)+k+w
  let u:=(zi1 a 30^^^zi1 a 19^^^zi1 a 10)+(a&&&g32 s 1^^^a&&&g32 s 2^^^g32 s 1&&&g32 s 2)
  [t+u,g32 s 0,g32 s 1,g32 s 2,g32 s 3+t,g32 s 4,g32 s 5,g32 s 6]
def zge (k:List UInt64) (w s:List UInt32):Nat→List UInt32
  |0=>s
  |i+1=>z55 (zge k w s i) (g64 k i>>>32).toUInt32 (g32 w i)
theorem zv8 {k:List UInt64} {w s:List UInt32} (h:s.length=8): ∀i,(zge k w s i).length=8
  |0=>h
  |_+1=>rfl
def zhq (k h:List UInt64) (b:List UInt8):List UInt64:=
  (List.range 8).map fun i=>((g64 h i).toUInt32+g32 (zge k (x7 b 64) ((List.range 8).map fun i=>(g64 h i).toUInt32) 64) i).toUInt64
theorem zwa (k h:List UInt64) (b:List UInt8):(zhq k h b).length=8:=z4 _ _
def z0 (x:UInt64):UInt64:=zko x 63^^^zko x 56^^^x>>>7
def z1 (y:UInt64):UInt64:=zko y 45^^^zko y 3^^^y>>>6
def x6 (b:List UInt8):Nat→List UInt64
  |0=>List.replicate 80 0
  |i+1=>(x6 b i).set i (if i<16 then num ((b.drop (8*i)).take 8) else
    g64 (x6 b i) (i-16)+g64 (x6 b i) (i-7)+z0 (g64 (x6 b i) (i-15))+z1 (g64 (x6 b i) (i-2)))
theorem znq (b:List UInt8): ∀i,(x6 b i).length=80
  |0=>rfl
  |i+1=>by simp only [x6,List.length_set];exact znq b i
theorem z5w {b:List UInt8} {i:Nat} (h:i<16):x6 b (i+1)=(x6 b i).set i (num ((b.drop (8*i)).take 8)):=by simp only [x6];rw [if_pos h]
theorem z41 {b:List UInt8} {i:Nat} (h: ¬i<16):x6 b (i+1)=(x6 b i).set i (g64 (x6 b i) (i-16)+g64 (x6 b i) (i-7)+z0 (g64 (x6 b i) (i-15))+z1 (g64 (x6 b i) (i-2))):=by simp only [x6];rw [if_neg h]
def z7i (s:List UInt64) (k w:UInt64):List UInt64:=
  let e:=g64 s 4;let a:=g64 s 0
  let t:=g64 s 7+(zko e 50^^^zko e 46^^^zko e 23)+(e&&&g64 s 5^^^ ~~~e&&&g64 s 6)+k+w
  let u:=(zko a 36^^^zko a 30^^^zko a 25)+(a&&&g64 s 1^^^a&&&g64 s 2^^^g64 s 1&&&g64 s 2)
  [t+u,g64 s 0,g64 s 1,g64 s 2,g64 s 3+t,g64 s 4,g64 s 5,g64 s 6]
def zgf (k w s:List UInt64):Nat→List UInt64
  |0=>s
  |i+1=>z7i (zgf k w s i) (g64 k i) (g64 w i)
theorem zvn {k w s:List UInt64} (h:s.length=8): ∀i,(zgf k w s i).length=8
  |0=>h
  |_+1=>rfl
def zhf (k h:List UInt64) (b:List UInt8):List UInt64:=
  (List.range 8).map fun i=>g64 h i+g64 (zgf k (x6 b 80) h 80) i
theorem zvi (k h:List UInt64) (b:List UInt8):(zhf k h b).length=8:=z4 _ _
def bk (n:Int):Nat:=if n=256 then 64 else 128
def za1 (n:Int) (k h:List UInt64) (b:List UInt8):List UInt64:=if n=256 then zhq k h b else zhf k h b
theorem zwk (n:Int) (k h:List UInt64) (b:List UInt8):(za1 n k h b).length=8:=by
  unfold za1;split
  ·exact zwa _ _ _
  ·exact zvi _ _ _
def xw (n:Int) (k h:List UInt64) (B:List UInt8):Nat→List UInt64
  |0=>h
  |t+1=>za1 n k (xw n k h B t) ((B.drop (bk n*t)).take (bk n))
theorem ze5 {n:Int} {k h:List UInt64} (hh:h.length=8) (B:List UInt8): ∀t,(xw n k h B t).length=8
  |0=>hh
  |_+1=>zwk _ _ _ _
end Go.Sym.Sha
namespace Go.Sym.Sha
open Go.Sym.Lp Go.Sym.Cha
def wrH (n:Int) (k h:List UInt64) (R s:List UInt8):List UInt64:=xw n k h (R++s) ((R++s).length/ bk n)
def wrR (n:Int) (R s:List UInt8):List UInt8:=(R++s).drop (bk n*((R++s).length/ bk n))
theorem zyi (n:Int):0<bk n:=by unfold bk;split<;>decide
theorem zhj (n:Int) (R s:List UInt8):(wrR n R s).length=(R.length+s.length)%bk n:=by
  unfold wrR
  rw [List.length_drop,List.length_append]
  have:=Nat.div_add_mod (R.length+s.length) (bk n)
  omega
theorem zoj (n:Int) (R s:List UInt8):(wrR n R s).length<bk n:=by rw [zhj];exact Nat.mod_lt _ (zyi n)
theorem zaf {n:Int} {k h:List UInt64} (hh:h.length=8) (R s:List UInt8):(wrH n k h R s).length=8:=ze5 hh _ _
def zbf (n:Int) (r:Nat):Nat:=1+(2*bk n-1-bk n/ 8-r)%bk n+bk n/ 8
def zb3 (L:Nat) (all:UInt64):Nat→List UInt8
  |0=>(List.replicate L 0).set 0 128
  |i+1=>(zb3 L all i).set (L-1-i) ((all*8)>>>UInt64.ofNat (8*i)).toUInt8
theorem zdr (L:Nat) (all:UInt64): ∀i,(zb3 L all i).length=L
  |0=>by simp [zb3]
  |i+1=>by simp only [zb3,List.length_set];exact zdr L all i
def zk6 (n:Int) (r:Nat) (all:UInt64):List UInt8:=zb3 (zbf n r) all 8
theorem zz7 (n:Int) (r:Nat) (all:UInt64):(zk6 n r all).length=zbf n r:=zdr _ _ _
theorem zf0 {n:Int} {R:List UInt8} (h:R.length<bk n) (all:UInt64):(wrR n R (zk6 n R.length all)).length=0:=by
  rw [zhj,zz7]
  unfold zbf
  have hb:bk n=64∨bk n=128:=by unfold bk;split<;>simp
  rcases hb with e|e<;>rw [e] at h ⊢ <;>omega
def outG (w:List UInt64) (size j:Nat):UInt8:=(g64 w (j/ size)>>>UInt64.ofNat (8*(size-1-j%size))).toUInt8
def zhh (w:List UInt64) (size:Nat):List UInt8:=(List.range (8*size)).map (outG w size)
theorem ze9 (w:List UInt64) (size:Nat):(zhh w size).length=8*size:=z4 _ _
def dl (n:Int):Nat:=if n=256 then 32 else 48
def zdj (n:Int) (k h:List UInt64) (R:List UInt8) (all:UInt64):List UInt8:=
  (zhh (wrH n k h R (zk6 n R.length all)) (bk n/ 16)).take (n/ 8).toNat
def KC:List UInt64:= [0x428a2f98d728ae22,0x7137449123ef65cd,0xb5c0fbcfec4d3b2f,0xe9b5dba58189dbbc,0x3956c25bf348b538,0x59f111f1b605d019,0x923f82a4af194f9b,0xab1c5ed5da6d8118,0xd807aa98a3030242,0x12835b0145706fbe,0x243185be4ee4b28c,0x550c7dc3d5ffb4e2,0x72be5d74f27b896f,0x80deb1fe3b1696b1,0x9bdc06a725c71235,0xc19bf174cf692694,0xe49b69c19ef14ad2,0xefbe4786384f25e3,0x0fc19dc68b8cd5b5,0x240ca1cc77ac9c65,0x2de92c6f592b0275,0x4a7484aa6ea6e483,0x5cb0a9dcbd41fbd4,0x76f988da831153b5,0x983e5152ee66dfab,0xa831c66d2db43210,0xb00327c898fb213f,0xbf597fc7beef0ee4,0xc6e00bf33da88fc2,0xd5a79147930aa725,0x06ca6351e003826f,0x142929670a0e6e70,0x27b70a8546d22ffc,0x2e1b21385c26c926,0x4d2c6dfc5ac42aed,0x53380d139d95b3df,0x650a73548baf63de,0x766a0abb3c77b2a8,0x81c2c92e47edaee6,0x92722c851482353b,0xa2bfe8a14cf10364,0xa81a664bbc423001,0xc24b8b70d0f89791,0xc76c51a30654be30,0xd192e819d6ef5218,0xd69906245565a910,0xf40e35855771202a,0x106aa07032bbd1b8,0x19a4c116b8d2d0c8,0x1e376c085141ab53,0x2748774cdf8eeb99,0x34b0bcb5e19b48a8,0x391c0cb3c5c95a63,0x4ed8aa4ae3418acb,0x5b9cca4f7763e373,0x682e6ff3d6b2b8a3,0x748f82ee5defb2fc,0x78a5636f43172f60,0x84c87814a1f0ab72,0x8cc702081a6439ec,0x90befffa23631e28,0xa4506cebde82bde9,0xbef9a3f7b2c67915,0xc67178f2e372532b,0xca273eceea26619c,0xd186b8c721c0c207,0xeada7dd6cde0eb1e,0xf57d4f7fee6ed178,0x06f067aa72176fba,0x0a637dc5a2c898a6,0x113f9804bef90dae,0x1b710b35131c471b,0x28db77f523047d84,0x32caab7b40c72493,0x3c9ebe0a15c9bebc,0x431d67c49c100d4c,0x4cc5d4becb3e42b6,0x597f299cfc657e2a,0x5fcb6fab3ad6faec,0x6c44198c4a475817]
theorem zpb:KC.length=80:=rfl
def HB (n:Int):List UInt64:=if n=256 then [0x6a09e667,0xbb67ae85,0x3c6ef372,0xa54ff53a,0x510e527f,0x9b05688c,0x1f83d9ab,0x5be0cd19] else [0xcbbb9d5dc1059ed8,0x629a292a367cd507,0x9159015a3070dd17,0x152fecd8f70e5939,0x67332667ffc00b31,0x8eb44a8768581511,0xdb0c2e0d64f98fa7,0x47b5481dbefa4fa4]
theorem zpc (n:Int):(HB n).length=8:=by unfold HB;split<;>rfl
def zhm (n:Int) (s:List UInt8):List UInt8:=zdj n KC (wrH n KC (HB n) [] s) (wrR n [] s) (UInt64.ofNat s.length)
theorem zhi {n:Int} (hn:n=256∨n=384) (k h:List UInt64) (R:List UInt8) (all:UInt64):(zdj n k h R all).length=dl n:=by
  unfold zdj dl
  rw [List.length_take,ze9]
  rcases hn with rfl|rfl
  ·rfl
  ·rfl
theorem zri {n:Int} (hn:n=256∨n=384) (s:List UInt8):(zhm n s).length=dl n:=zhi hn _ _ _ _
end Go.Sym.Sha

namespace Go.Sym.A
open Go Go.Proofs.Try Go.Sym.Lp Go.Sym.Cha Go.Sym.Sha
set_option maxRecDepth 100000
attribute [local irreducible] zgy x7 x6 zge zgf
def z65:List (Nat×List PStep):= []
def z60:List (Nat×List PStep):= []
def z7t:List (Nat×List PStep):= [(6,[⟨0,[]⟩,⟨1,[]⟩,⟨2,[]⟩,⟨3,[]⟩,⟨4,[0,1,2,3]⟩,⟨5,[0,1,2,3]⟩,⟨6,[0,1,2,3]⟩,⟨7,[0,1,2,3]⟩,⟨8,[4,5,6,7]⟩,⟨9,[]⟩]),(7,[⟨0,[]⟩,⟨1,[0]⟩,⟨2,[0]⟩,⟨3,[0]⟩,⟨4,[0]⟩,⟨5,[0,1,2,3,4]⟩,⟨6,[0,1,2,3,4]⟩,⟨7,[0,1,2,3,4]⟩,⟨8,[0,1,2,3,4]⟩,⟨9,[0]⟩,⟨10,[0,1,2,3,4,5,6,7,8,9]⟩,⟨12,[0,1,2,3,4,5,6,7,8,9,10]⟩,⟨15,[0,1,2,3,4,5,6,7,8,9,10,12]⟩,⟨16,[0,1,2,3,4,5,6,7,8,9,10,12]⟩,⟨19,[0,1,2,3,4,5,6,7,8,9,10,12,15,16]⟩,⟨21,[0,1,2,3,4,5,6,7,8,9,10,12,15,16,19]⟩,⟨24,[0,1,2,3,4,5,6,7,8,9,10,12,15,16,19,21]⟩,⟨25,[0,1,2,3,4,5,6,7,8,9,10,12,15,16,19,21]⟩,⟨11,[0,1,2,3,4,5,6,7,8,9,12,15,16,19,21,24,25]⟩,⟨13,[0,1,2,3,4,5,6,7,8,9,15,16,19,21,24,25]⟩,⟨14,[0,1,2,3,4,5,6,7,8,9,15,16,19,21,24,25]⟩,⟨17,[0,1,2,3,4,5,6,7,8,9,19,21,24,25]⟩,⟨18,[0,19,21,24,25]⟩,⟨20,[0,1,2,3,4,5,6,7,8,9,15,16,21,24,25,14,17,18]⟩,⟨22,[0,1,2,3,4,5,6,7,8,9,15,16,24,25,14,17,18]⟩,⟨23,[0,1,2,3,4,5,6,7,8,9,15,16,24,25,14,17,18]⟩,⟨26,[0,1,2,3,4,5,6,7,8,9,15,16,14,17,18]⟩,⟨27,[0]⟩,⟨28,[]⟩,⟨29,[]⟩]),(18,[⟨0,[]⟩,⟨1,[]⟩,⟨2,[0,1]⟩,⟨3,[0,1]⟩,⟨4,[2,3]⟩,⟨5,[]⟩]),(19,[⟨0,[]⟩,⟨1,[]⟩,⟨2,[0,1]⟩,⟨4,[0,1,2]⟩,⟨7,[0,1,2,4]⟩,⟨11,[0,1,2,4,7]⟩,⟨12,[0,1,2,4,7,11]⟩,⟨13,[0,1,2,4,7,11]⟩,⟨14,[0,1,2,4,7]⟩,⟨15,[0,1,2,4,7,11,12,13,14]⟩,⟨16,[0,1,2,4,7,11,12,13,14]⟩,⟨17,[0,1,2,4,7,11,12,13,14,15,16]⟩,⟨18,[0,1,2,4,7,11,12,13,14,15,16]⟩,⟨19,[0,1,2,4,7,11,12,13,14]⟩,⟨20,[0,1,2,4,7]⟩,⟨22,[0,1,2,4,7,11,12,13,14,15,16,17,18,19,20]⟩,⟨23,[0,1,2,4,7,11,12,13,14,15,16,17,18,19,20,22]⟩,⟨24,[0,1,2,4,7,11,12,13,14,15,16,17,18,19,20,23]⟩,⟨25,[0,1,2,4,7,11,12,13,14,15,16,17,18,19,20,23]⟩,⟨26,[0,1,2,4,7,11,12,13,14,15,16,17,18,19,20]⟩,⟨27,[0,1,2,4,7,11,12,13,14,15,16,17,18,19,20]⟩,⟨28,[0,1,2,4,7,11,12,13,14,15,16,17,18,19,20]⟩,⟨29,[0,1,2,4,7,11,12,13,14,15,16,17,18,19,20]⟩,⟨31,[0,1,2,4,7,11,12,13,14,15,16,17,18,19,20,22,23,24,25,26,27,28,29]⟩,⟨32,[0,1,2,4,7,11,12,13,14,15,16,17,18,19,20,22,23,24,25,26,27,28,29]⟩,⟨33,[0,1,2,4,7,11,12,13,14,15,16,17,18,19,20,22,23,24,25,26,27,28,29]⟩,⟨3,[0,1,4,7,11,12,13,14,15,16,17,18,19,20,22,23,24,25,26,27,28,29,31,32,33]⟩,⟨5,[0,1,7,11,12,13,14,15,16,17,18,19,20,22,23,24,25,26,27,28,29,31,32,33]⟩,⟨6,[0,1,7,11,12,13,14,15,16,17,18,19,20,22,23,24,25,26,27,28,29,31,32,33]⟩,⟨8,[0,1,11,12,13,14,15,16,17,18,19,20,22,23,24,25,26,27,28,29,31,32,33,6]⟩,⟨9,[0,1,11,12,13,14,15,16,17,18,19,20,22,23,24,25,26,27,28,29,31,32,33]⟩,⟨10,[11,12,13,14,15,16,17,18,19,20,22,23,24,25,26,27,28,29,31,32,33]⟩,⟨21,[22,23,24,25,26,27,28,29,31,32,33]⟩,⟨30,[31,32,33]⟩,⟨34,[]⟩,⟨35,[]⟩]),(20,[⟨0,[]⟩,⟨2,[0]⟩,⟨5,[0,2]⟩,⟨8,[0,2,5]⟩,⟨9,[0,2,5,8]⟩,⟨10,[0,2,5,8]⟩,⟨11,[0,2,5]⟩,⟨12,[0,2,5,8,9,10,11]⟩,⟨13,[0,2,5,8,9,10,11,12]⟩,⟨14,[0,2,5,8,9,10,11,12]⟩,⟨15,[0,2,5,8,9,10,11]⟩,⟨16,[0,2,5]⟩,⟨17,[0,2,5,8,9,10,11,12,13,14,15,16]⟩,⟨18,[0,2,5,8,9,10,11,12,13,14,15,16]⟩,⟨19,[0,2,5,8,9,10,11,12,13,14,15,16,17,18]⟩,⟨20,[0,2,5,8,9,10,11,12,13,14,15,16,17,18]⟩,⟨21,[0,2,5,8,9,10,11,12,13,14,15,16]⟩,⟨22,[0,2,5]⟩,⟨1,[2,5,8,9,10,11,12,13,14,15,16,17,18,19,20,21,22]⟩,⟨3,[5,8,9,10,11,12,13,14,15,16,17,18,19,20,21,22]⟩,⟨4,[5,8,9,10,11,12,13,14,15,16,17,18,19,20,21,22]⟩,⟨6,[8,9,10,11,12,13,14,15,16,17,18,19,20,21,22,4]⟩,⟨7,[8,9,10,11,12,13,14,15,16,17,18,19,20,21,22]⟩,⟨23,[]⟩,⟨24,[]⟩]),(26,[⟨0,[]⟩,⟨1,[0]⟩,⟨2,[0,1]⟩,⟨3,[0,1,2]⟩,⟨4,[0,1,3]⟩,⟨5,[0,1,3]⟩,⟨6,[0,1]⟩,⟨7,[0,1]⟩,⟨8,[0,1]⟩,⟨9,[0,1,2,3,4,5,6,7,8]⟩,⟨10,[0,1,2,3,4,5,6,7,8]⟩,⟨11,[0,1,2,3,4,5,6,7,8]⟩,⟨12,[0,1]⟩,⟨13,[0,1]⟩,⟨14,[1,2,3,4,5,6,7,8,9,10,11,12,13]⟩,⟨15,[1,2,3,4,5,6,7,8,9,10,11,12,13]⟩,⟨16,[]⟩,⟨17,[]⟩])]
def z6g:List (Nat×List PStep):= [(6,[⟨0,[]⟩,⟨1,[]⟩,⟨2,[]⟩,⟨3,[]⟩,⟨4,[0,1,2,3]⟩,⟨5,[0,1,2,3]⟩,⟨6,[0,1,2,3]⟩,⟨7,[0,1,2,3]⟩,⟨8,[4,5,6,7]⟩,⟨9,[]⟩]),(7,[⟨0,[]⟩,⟨1,[0]⟩,⟨2,[0]⟩,⟨3,[0]⟩,⟨4,[0]⟩,⟨5,[0,1,2,3,4]⟩,⟨6,[0,1,2,3,4]⟩,⟨7,[0,1,2,3,4]⟩,⟨8,[0,1,2,3,4]⟩,⟨9,[0]⟩,⟨10,[0,1,2,3,4,5,6,7,8,9]⟩,⟨12,[0,1,2,3,4,5,6,7,8,9,10]⟩,⟨15,[0,1,2,3,4,5,6,7,8,9,10,12]⟩,⟨16,[0,1,2,3,4,5,6,7,8,9,10,12]⟩,⟨19,[0,1,2,3,4,5,6,7,8,9,10,12,15,16]⟩,⟨21,[0,1,2,3,4,5,6,7,8,9,10,12,15,16,19]⟩,⟨24,[0,1,2,3,4,5,6,7,8,9,10,12,15,16,19,21]⟩,⟨25,[0,1,2,3,4,5,6,7,8,9,10,12,15,16,19,21]⟩,⟨11,[0,1,2,3,4,5,6,7,8,9,12,15,16,19,21,24,25]⟩,⟨13,[0,1,2,3,4,5,6,7,8,9,15,16,19,21,24,25]⟩,⟨14,[0,1,2,3,4,5,6,7,8,9,15,16,19,21,24,25]⟩,⟨17,[0,1,2,3,4,5,6,7,8,9,19,21,24,25]⟩,⟨18,[0,19,21,24,25]⟩,⟨20,[0,1,2,3,4,5,6,7,8,9,15,16,21,24,25,14,17,18]⟩,⟨22,[0,1,2,3,4,5,6,7,8,9,15,16,24,25,14,17,18]⟩,⟨23,[0,1,2,3,4,5,6,7,8,9,15,16,24,25,14,17,18]⟩,⟨26,[0,1,2,3,4,5,6,7,8,9,15,16,14,17,18]⟩,⟨27,[0]⟩,⟨28,[]⟩,⟨29,[]⟩]),(13,[⟨0,[]⟩,⟨1,[]⟩,⟨2,[0,1]⟩,⟨3,[0,1]⟩,⟨4,[2,3]⟩,⟨5,[]⟩]),(14,[⟨0,[]⟩,⟨1,[]⟩,⟨2,[0,1]⟩,⟨4,[0,1,2]⟩,⟨7,[0,1,2,4]⟩,⟨11,[0,1,2,4,7]⟩,⟨12,[0,1,2,4,7,11]⟩,⟨13,[0,1,2,4,7,11]⟩,⟨14,[0,1,2,4,7]⟩,⟨15,[0,1,2,4,7,11,12,13,14]⟩,⟨16,[0,1,2,4,7,11,12,13,14]⟩,⟨17,[0,1,2,4,7,11,12,13,14,15,16]⟩,⟨18,[0,1,2,4,7,11,12,13,14,15,16]⟩,⟨19,[0,1,2,4,7,11,12,13,14]⟩,⟨20,[0,1,2,4,7]⟩,⟨22,[0,1,2,4,7,11,12,13,14,15,16,17,18,19,20]⟩,⟨23,[0,1,2,4,7,11,12,13,14,15,16,17,18,19,20,22]⟩,⟨24,[0,1,2,4,7,11,12,13,14,15,16,17,18,19,20,23]⟩,⟨25,[0,1,2,4,7,11,12,13,14,15,16,17,18,19,20,23]⟩,⟨26,[0,1,2,4,7,11,12,13,14,15,16,17,18,19,20]⟩,⟨27,[0,1,2,4,7,11,12,13,14,15,16,17,18,19,20]⟩,⟨29,[0,1,2,4,7,11,12,13,14,15,16,17,18,19,20,22,23,24,25,26,27]⟩,⟨30,[0,1,2,4,7,11,12,13,14,15,16,17,18,19,20,22,23,24,25,26,27]⟩,⟨31,[0,1,2,4,7,11,12,13,14,15,16,17,18,19,20,22,23,24,25,26,27]⟩,⟨3,[0,1,4,7,11,12,13,14,15,16,17,18,19,20,22,23,24,25,26,27,29,30,31]⟩,⟨5,[0,1,7,11,12,13,14,15,16,17,18,19,20,22,23,24,25,26,27,29,30,31]⟩,⟨6,[0,1,7,11,12,13,14,15,16,17,18,19,20,22,23,24,25,26,27,29,30,31]⟩,⟨8,[0,1,11,12,13,14,15,16,17,18,19,20,22,23,24,25,26,27,29,30,31,6]⟩,⟨9,[0,1,11,12,13,14,15,16,17,18,19,20,22,23,24,25,26,27,29,30,31]⟩,⟨10,[11,12,13,14,15,16,17,18,19,20,22,23,24,25,26,27,29,30,31]⟩,⟨21,[22,23,24,25,26,27,29,30,31]⟩,⟨28,[29,30,31]⟩,⟨32,[]⟩,⟨33,[]⟩]),(15,[⟨0,[]⟩,⟨2,[0]⟩,⟨5,[0,2]⟩,⟨8,[0,2,5]⟩,⟨9,[0,2,5,8]⟩,⟨10,[0,2,5,8]⟩,⟨11,[0,2,5]⟩,⟨12,[0,2,5,8,9,10,11]⟩,⟨13,[0,2,5,8,9,10,11,12]⟩,⟨14,[0,2,5,8,9,10,11,12]⟩,⟨15,[0,2,5,8,9,10,11]⟩,⟨16,[0,2,5]⟩,⟨17,[0,2,5,8,9,10,11,12,13,14,15,16]⟩,⟨18,[0,2,5,8,9,10,11,12,13,14,15,16]⟩,⟨19,[0,2,5,8,9,10,11,12,13,14,15,16,17,18]⟩,⟨20,[0,2,5,8,9,10,11,12,13,14,15,16,17,18]⟩,⟨21,[0,2,5,8,9,10,11,12,13,14,15,16]⟩,⟨22,[0,2,5]⟩,⟨1,[2,5,8,9,10,11,12,13,14,15,16,17,18,19,20,21,22]⟩,⟨3,[5,8,9,10,11,12,13,14,15,16,17,18,19,20,21,22]⟩,⟨4,[5,8,9,10,11,12,13,14,15,16,17,18,19,20,21,22]⟩,⟨6,[8,9,10,11,12,13,14,15,16,17,18,19,20,21,22,4]⟩,⟨7,[8,9,10,11,12,13,14,15,16,17,18,19,20,21,22]⟩,⟨23,[]⟩,⟨24,[]⟩]),(21,[⟨0,[]⟩,⟨1,[0]⟩,⟨2,[1]⟩,⟨3,[1]⟩,⟨4,[]⟩,⟨5,[]⟩,⟨6,[0,1,2,3,4,5]⟩,⟨7,[0,1,2,3,4,5]⟩,⟨8,[0,1,2,3,4,5]⟩,⟨9,[]⟩,⟨10,[1,2,3,4,5,6,7,8,9]⟩,⟨11,[1,2,3,4,5,6,7,8,9]⟩,⟨12,[]⟩,⟨13,[]⟩])]
def z6o:List (Nat×TyI):= [(3,ty3),(4,ty4),(5,ty5),(9,ty9),(34,zdh),(35,zdd),(93,zb7),(91,x4),(193,zfa),(195,zfk),(199,zew),(201,zfg),(198,zen),(183,zei)]
theorem x0: ∀t i,yw z6o t=some i→yp prog t i:=(zc ty3_ok (zc zc3 (zc zcz (zc ty9_ok (zc zbh (zc zbl (zc zcx (zc zcy (zc z0a (zc zye (zc zzx (zc zx4 (zc zqs (zc zqv zao))))))))))))))
theorem z5n {k:Int}:(UInt64.ofInt k&&&UInt64.ofNat 63).toNat=(k%64).toNat:=by
  rw [UInt64.toNat_and,show (UInt64.ofNat 63).toNat=2^6-1 by decide,Nat.and_two_pow_sub_one_eq_mod]
  have h:(UInt64.ofInt k).toNat=(k%18446744073709551616).toNat:=by
    unfold UInt64.ofInt
    rw [UInt64.toNat_ofNat']
    have:=Int.emod_nonneg k (show (2^64:Int)≠0 by decide)
    have:=Int.emod_lt_of_pos k (show (0:Int)<2^64 by decide)
    omega
  rw [h]
  omega
def ztm:Spec:=fun args hp K=>match args,hp with
  | [.u64 x,.int k],[]=>Pre (k%64≠0) (K (.u64 (zko x (k%64).toNat)) [])
  |_,_=>False
theorem z13:zp prog 144 ztm:=by
  refine zo x0 zk rfl func144 rfl call144 (D:=z65) ?_ ?_
  ·intro args hp K h
   unfold ztm at h
   split at h
   ·exact Nat.le_of_ble_eq_true rfl
   ·exact h.elim
  ·intro args hp K h
   unfold ztm at h
   split at h
   ·rename_i x k
    obtain ⟨hk,h⟩:=zl h
    have hs:=z5n (k:=k)
    have hm:=Int.emod_lt_of_pos k (show (0:Int)<64 by decide)
    have hm0:=Int.emod_nonneg k (show (64:Int)≠0 by decide)
    have hd:(UInt64.ofNat 64-(UInt64.ofInt k&&&UInt64.ofNat 63)).toNat=64-(k%64).toNat:=by
      rw [UInt64.toNat_sub_of_le _ _ (by rw [UInt64.le_iff_toNat_le,hs];show _≤64;omega),hs];rfl
    refine wk ?_
    rw [hs,hd]
    conv=>whnf
    exact ze (hp':= []) [] h
   ·exact h.elim
def zr6:Spec:=fun args hp K=>match args,hp with
  | [.sl 0 0 0 o n c],[.mk t [.arr8 m l]]=>Pre (off o+n≤l.length∧n≤1000) (K (.u64 (num ((l.drop (off o)).take n))) [.mk t [.arr8 m l]])
  |_,_=>False
theorem zuh:zp prog 143 zr6:=by
  refine zo x0 zk rfl func143 rfl call143 (D:=z60) ?_ ?_
  ·intro args hp K h
   unfold zr6 at h
   split at h
   ·exact Nat.le_of_ble_eq_true rfl
   ·exact h.elim
  ·intro args hp K h
   unfold zr6 at h
   split at h
   ·rename_i o n c t m l
    obtain ⟨⟨hl,hn⟩,h⟩:=zl h
    have hB:((l.drop (off o)).take n).length=n:=by rw [List.length_take,List.length_drop];omega
    have hN:num ((l.drop (off o)).take n)=zgy ((l.drop (off o)).take n) n:=by unfold num;rw [hB]
    rw [hN] at h
    refine wk ?_
    refine zt (Ix (n)) (fun q=>⟨[(0,.sl 0 0 0 o n c),(3,.u64 (zgy ((l.drop (off o)).take n) q.i)),(6,.sl 0 0 0 o n c),(7,.int n),(8,.int q.i)],[.mk t [.arr8 m l]]⟩) (fun q=>(n)-q.i) ⟨0,Nat.zero_le _⟩ [0] ?_ ?_
    ·repeat ((conv=>whnf);refine za ?_)
     conv=>whnf
     refine zh (congrArg SV.u64 (show (0:UInt64)=zgy _ 0 by unfold zgy;rfl)) ?_
     repeat ((conv=>whnf);refine za ?_)
     exact trivial
    ·intro q
     have hi:=q.hi
     have hA:off (yc o ((q.i:Int)).toNat ty5.sz)=off o+q.i:=by rw [zv];show off o+((q.i:Int)).toNat*1=_;omega
     by_cases h4:q.i<n
     ·refine wk ?_
      refine ⟨⟨q.i+1,h4⟩,[0],by show (n)-(q.i+1)<(n)-q.i;omega,?_⟩
      repeat ((conv=>whnf);refine za ?_)
      conv=>whnf
      refine zh (congrArg SV.u64 (show _=zgy ((l.drop (off o)).take n) (q.i+1) by simp only [zgy];rw [zhp h4,←hA];rfl)) ?_
      repeat ((conv=>whnf);refine za ?_)
      exact trivial
     ·have e4:q.i=n:=by omega
      rw [e4]
      refine wk ?_
      exact ze (hp':= [.mk t [.arr8 m l]]) [0] h
   ·exact h.elim
def zo3:Spec:=fun args hp K=>match args,hp with
  | [.ptr 0 0 0 [],.sl 1 0 0 o n c],[.mk t0 [.int m,.arr64 8 H,.arr64 80 k,.sl 1 0 0 [] rn rc,.u64 all],.mk t [.arr8 L l]]=>Pre (H.length=8∧k.length=80∧64≤n∧off o+n≤l.length∧n≤c)
      (K (.tup []) [.mk t0 [.int m,.arr64 8 (zhq k H ((l.drop (off o)).take 64)),.arr64 80 k,.sl 1 0 0 [] rn rc,.u64 all],.mk t [.arr8 L l]])
  |_,_=>False
set_option maxHeartbeats 4000000 in
theorem zz8:zp prog 141 zo3:=by
  refine zo x0 (zd zuh (zd zt7 zk)) rfl func141 rfl call141 (D:=z7t) ?_ ?_
  ·intro args hp K h
   unfold zo3 at h
   split at h
   ·exact Nat.le_of_ble_eq_true rfl
   ·exact h.elim
  ·intro args hp K h
   unfold zo3 at h
   split at h
   ·rename_i o n c t0 m H k rn rc all t L l
    obtain ⟨⟨hH,hk,hn,hl,hc⟩,h⟩:=zl h
    obtain ⟨B,hB⟩: ∃B,B=(l.drop (off o)).take 64:=⟨_,rfl⟩
    rw [←hB] at h
    refine wk ?_
    refine zt (Ix (64)) (fun q=>⟨[(0,.ptr 0 0 0 []),(1,.sl 1 0 0 o n c),(4,.ptr 2 0 0 []),(16,.int q.i)],[.mk t0 [.int m,.arr64 8 H,.arr64 80 k,.sl 1 0 0 [] rn rc,.u64 all],.mk t [.arr8 L l],.mk 199 [.arr32 64 (x7 B q.i)]]⟩) (fun q=>(64)-q.i) ⟨0,Nat.zero_le _⟩ [0,1,2] ?_ ?_
    ·repeat ((conv=>whnf);refine za ?_)
     conv=>whnf
     refine zh (congrArg (fun x=>SV.agg [SV.arr32 64 x]) (show _=x7 B 0 by unfold x7;rfl)) ?_
     repeat ((conv=>whnf);refine za ?_)
     exact trivial
    ·intro q
     have hi:=q.hi
     have hwl:=znb B q.i
     have hx0:off (yc [] ((q.i:Int)).toNat zb7.sz)=q.i:=by rw [zv];show 0+((q.i:Int)).toNat*1=_;omega
     by_cases h4:q.i<64
     ·by_cases h16:q.i<16
      ·have hof:off (yc o (4*(q.i:Int)).toNat ty5.sz)=off o+4*q.i:=by rw [zv];show off o+(4*(q.i:Int)).toNat*1=_;omega
       have hso:off (yc o (slO c (4*(q.i:Int)).toNat) ty5.sz)=off o+4*q.i:=by rw [zv,xa (by omega)];show off o+(4*(q.i:Int)).toNat*1=_;omega
       have hpw:off (yc o (slO c (4*(q.i:Int)).toNat) ty5.sz)+((4*(q.i:Int)+4).toNat-(4*(q.i:Int)).toNat)≤l.length:=by rw [hso];omega
       have hpw2:off (yc o (slO c (4*(q.i:Int)).toNat) ty5.sz)+((4*(q.i:Int)+4).toNat-(4*(q.i:Int)).toNat)≤l.length∧(4*(q.i:Int)+4).toNat-(4*(q.i:Int)).toNat≤1000:=⟨hpw,by omega⟩
       have hnum:num (List.take ((4*(q.i:Int)+4).toNat-(4*(q.i:Int)).toNat) (List.drop (off (yc o (slO c (4*(q.i:Int)).toNat) ty5.sz)) l))=num ((B.drop (4*q.i)).take 4):=by
         rw [hso,hB,show (4*(q.i:Int)+4).toNat-(4*(q.i:Int)).toNat=4 by omega,List.drop_take,List.take_take,List.drop_drop,Nat.min_eq_left (by omega)]
       refine wk ?_
       refine ⟨⟨q.i+1,h4⟩,[0,1,2],by show (64)-(q.i+1)<(64)-q.i;omega,?_⟩
       repeat ((conv=>whnf);refine za ?_)
       conv=>whnf
       refine zh (congrArg (fun x=>SV.agg [SV.arr32 64 x]) (show _=x7 B (q.i+1) by rw [hnum,hx0,z40 h16])) ?_
       repeat ((conv=>whnf);refine za ?_)
       exact trivial
      ·have hx15:off (yc [] ((q.i:Int)-15).toNat zb7.sz)=q.i-15:=by rw [zv];show 0+((q.i:Int)-15).toNat*1=_;omega
       have hx2:off (yc [] ((q.i:Int)-2).toNat zb7.sz)=q.i-2:=by rw [zv];show 0+((q.i:Int)-2).toNat*1=_;omega
       have hx16:off (yc [] ((q.i:Int)-16).toNat zb7.sz)=q.i-16:=by rw [zv];show 0+((q.i:Int)-16).toNat*1=_;omega
       have hx7:off (yc [] ((q.i:Int)-7).toNat zb7.sz)=q.i-7:=by rw [zv];show 0+((q.i:Int)-7).toNat*1=_;omega
       refine wk ?_
       refine ⟨⟨q.i+1,h4⟩,[0,1,2],by show (64)-(q.i+1)<(64)-q.i;omega,?_⟩
       repeat ((conv=>whnf);refine za ?_)
       conv=>whnf
       refine zh (congrArg (fun x=>SV.agg [SV.arr32 64 x]) (show _=x7 B (q.i+1) by rw [hx0,hx15,hx2,hx16,hx7,z4s h16];rfl)) ?_
       repeat ((conv=>whnf);refine za ?_)
       exact trivial
     ·have e4:q.i=64:=by omega
      rw [e4] at hwl
      rw [e4]
      generalize hW:x7 B 64=W at*
      clear hx0 hi h4 e4 q
      refine wk ?_
      have hS0:([0,0,0,0,0,0,0,0]:List UInt32).length=8:=rfl
      refine zt (Ix (8)) (fun q=>⟨[(0,.ptr 0 0 0 []),(4,.ptr 2 0 0 []),(8,.ptr 3 0 0 []),(70,.int q.i)],[.mk t0 [.int m,.arr64 8 H,.arr64 80 k,.sl 1 0 0 [] rn rc,.u64 all],.mk t [.arr8 L l],.mk 199 [.arr32 64 W],.mk 201 [.arr32 8 (ovr [0,0,0,0,0,0,0,0] 0 (fun i=>(g64 H i).toUInt32) q.i)]]⟩) (fun q=>(8)-q.i) ⟨0,Nat.zero_le _⟩ [0,1,2,3] ?_ ?_
      ·repeat ((conv=>whnf);refine za ?_)
       exact trivial
      ·intro q
       have hi:=q.hi
       have hlo:=yn (l:=([0,0,0,0,0,0,0,0]:List UInt32)) (a:=0) (i:=q.i) (by rw [hS0];omega) (fun i=>(g64 H i).toUInt32)
       rw [hS0] at hlo
       have hI:((q.i:Int)).toNat=q.i:=Int.toNat_natCast _
       by_cases h4:q.i<8
       ·refine wk ?_
        refine ⟨⟨q.i+1,h4⟩,[0,1,2,3],by show (8)-(q.i+1)<(8)-q.i;omega,?_⟩
        repeat ((conv=>whnf);refine za ?_)
        conv=>whnf
        refine zh (congrArg (fun x=>SV.agg [SV.arr32 8 x]) (yb (by rw [hS0];omega) ?hv ?hkk)) ?_
        case hkk=>show ((q.i:Int)).toNat=0+q.i;omega
        case hv=>show (List.getD H ((q.i:Int)).toNat 0).toUInt32=_;rw [hI];rfl
        repeat ((conv=>whnf);refine za ?_)
        exact trivial
       ·have e4:q.i=8:=by omega
        rw [e4,xu hS0]
        obtain ⟨S,hSd⟩: ∃S,S=(List.range 8).map fun i=>(g64 H i).toUInt32:=⟨_,rfl⟩
        have hSl:S.length=8:=by rw [hSd];exact z4 _ _
        rw [←hSd]
        clear hi h4 e4 hlo hI q
        refine wk ?_
        refine zt (Ix (64)) (fun q=>⟨[(0,.ptr 0 0 0 []),(4,.ptr 2 0 0 []),(8,.ptr 3 0 0 []),(83,.int q.i)],[.mk t0 [.int m,.arr64 8 H,.arr64 80 k,.sl 1 0 0 [] rn rc,.u64 all],.mk t [.arr8 L l],.mk 199 [.arr32 64 W],.mk 201 [.arr32 8 (zge k W S q.i)]]⟩) (fun q=>(64)-q.i) ⟨0,Nat.zero_le _⟩ [0,1,2,3] ?_ ?_
        ·repeat ((conv=>whnf);refine za ?_)
         conv=>whnf
         refine zh (congrArg (fun x=>SV.agg [SV.arr32 8 x]) (show _=zge k W S 0 by unfold zge;rfl)) ?_
         repeat ((conv=>whnf);refine za ?_)
         exact trivial
        ·intro q
         have hi:=q.hi
         have hrl:=zv8 (k:=k) (w:=W) hSl q.i
         have hx0:off (yc [] ((q.i:Int)).toNat zb7.sz)=q.i:=by rw [zv];show 0+((q.i:Int)).toNat*1=_;omega
         have hy0:off (yc [] ((q.i:Int)).toNat x4.sz)=q.i:=by rw [zv];show 0+((q.i:Int)).toNat*1=_;omega
         by_cases h4:q.i<64
         ·refine wk ?_
          conv=>whnf
          refine ⟨⟨q.i+1,h4⟩,[0,1,2,3],by show (64)-(q.i+1)<(64)-q.i;omega,?_⟩
          repeat ((conv=>whnf);refine za ?_)
          conv=>whnf
          refine zh (congrArg (fun x=>SV.agg [SV.arr32 8 x]) (show _=zge k W S (q.i+1) by simp only [zge];rw [←hx0];rfl)) ?_
          repeat ((conv=>whnf);refine za ?_)
          exact trivial
         ·have e4:q.i=64:=by omega
          rw [e4] at hrl
          rw [e4]
          obtain ⟨Z,hZ⟩: ∃Z,Z=zge k W S 64:=⟨_,rfl⟩
          rw [←hZ] at hrl
          rw [←hZ]
          clear hy0 hx0 hi h4 e4 q
          refine wk ?_
          refine zt (Ix (8)) (fun q=>⟨[(0,.ptr 0 0 0 []),(4,.ptr 2 0 0 []),(8,.ptr 3 0 0 []),(170,.int q.i)],[.mk t0 [.int m,.arr64 8 (ovr H 0 (fun i=>((g64 H i).toUInt32+g32 Z i).toUInt64) q.i),.arr64 80 k,.sl 1 0 0 [] rn rc,.u64 all],.mk t [.arr8 L l],.mk 199 [.arr32 64 W],.mk 201 [.arr32 8 Z]]⟩) (fun q=>(8)-q.i) ⟨0,Nat.zero_le _⟩ [0,1,2,3] ?_ ?_
          ·repeat ((conv=>whnf);refine za ?_)
           exact trivial
          ·intro q
           have hi:=q.hi
           have hlo:=yn (l:=H) (a:=0) (i:=q.i) (by omega) (fun i=>((g64 H i).toUInt32+g32 Z i).toUInt64)
           have hI:((q.i:Int)).toNat=q.i:=Int.toNat_natCast _
           by_cases h4:q.i<8
           ·refine wk ?_
            refine ⟨⟨q.i+1,h4⟩,[0,1,2,3],by show (8)-(q.i+1)<(8)-q.i;omega,?_⟩
            repeat ((conv=>whnf);refine za ?_)
            conv=>whnf
            refine zh (congrArg (fun x=>SV.agg [SV.int m,SV.arr64 8 x,SV.arr64 80 k,SV.sl 1 0 0 [] rn rc,SV.u64 all]) (yb (by omega) ?hv ?hkk)) ?_
            case hkk=>show ((q.i:Int)).toNat=0+q.i;omega
            case hv=>
              show ((List.getD (ovr H 0 (fun i=>((g64 H i).toUInt32+g32 Z i).toUInt64) q.i) ((q.i:Int)).toNat 0).toUInt32+List.getD Z ((q.i:Int)).toNat 0).toUInt64=_
              rw [yt (by omega) _ (by omega),hI];rfl
            repeat ((conv=>whnf);refine za ?_)
            exact trivial
           ·have e4:q.i=8:=by omega
            have hfin:ovr H 0 (fun i=>((g64 H i).toUInt32+g32 Z i).toUInt64) 8=zhq k H B:=by
              rw [xu hH];unfold zhq;rw [hW,←hSd,←hZ]
            rw [e4,hfin]
            refine wk ?_
            exact ze (hp':= [.mk t0 [.int m,.arr64 8 (zhq k H B),.arr64 80 k,.sl 1 0 0 [] rn rc,.u64 all],.mk t [.arr8 L l]]) [0,1] h
   ·exact h.elim
def zo2:Spec:=fun args hp K=>match args,hp with
  | [.ptr 0 0 0 [],.sl 1 0 0 o n c],[.mk t0 [.int m,.arr64 8 H,.arr64 80 k,.sl 1 0 0 [] rn rc,.u64 all],.mk t [.arr8 L l]]=>Pre (H.length=8∧k.length=80∧128≤n∧off o+n≤l.length∧n≤c)
      (K (.tup []) [.mk t0 [.int m,.arr64 8 (zhf k H ((l.drop (off o)).take 128)),.arr64 80 k,.sl 1 0 0 [] rn rc,.u64 all],.mk t [.arr8 L l]])
  |_,_=>False
set_option maxHeartbeats 4000000 in
theorem z0r:zp prog 142 zo2:=by
  refine zo x0 (zd zuh (zd z13 zk)) rfl func142 rfl call142 (D:=z6g) ?_ ?_
  ·intro args hp K h
   unfold zo2 at h
   split at h
   ·exact Nat.le_of_ble_eq_true rfl
   ·exact h.elim
  ·intro args hp K h
   unfold zo2 at h
   split at h
   ·rename_i o n c t0 m H k rn rc all t L l
    obtain ⟨⟨hH,hk,hn,hl,hc⟩,h⟩:=zl h
    obtain ⟨B,hB⟩: ∃B,B=(l.drop (off o)).take 128:=⟨_,rfl⟩
    rw [←hB] at h
    refine wk ?_
    refine zt (Ix (80)) (fun q=>⟨[(0,.ptr 0 0 0 []),(1,.sl 1 0 0 o n c),(4,.ptr 2 0 0 []),(15,.int q.i)],[.mk t0 [.int m,.arr64 8 H,.arr64 80 k,.sl 1 0 0 [] rn rc,.u64 all],.mk t [.arr8 L l],.mk 195 [.arr64 80 (x6 B q.i)]]⟩) (fun q=>(80)-q.i) ⟨0,Nat.zero_le _⟩ [0,1,2] ?_ ?_
    ·repeat ((conv=>whnf);refine za ?_)
     conv=>whnf
     refine zh (congrArg (fun x=>SV.agg [SV.arr64 80 x]) (show _=x6 B 0 by unfold x6;rfl)) ?_
     repeat ((conv=>whnf);refine za ?_)
     exact trivial
    ·intro q
     have hi:=q.hi
     have hwl:=znq B q.i
     have hx0:off (yc [] ((q.i:Int)).toNat x4.sz)=q.i:=by rw [zv];show 0+((q.i:Int)).toNat*1=_;omega
     by_cases h4:q.i<80
     ·by_cases h16:q.i<16
      ·have hof:off (yc o (8*(q.i:Int)).toNat ty5.sz)=off o+8*q.i:=by rw [zv];show off o+(8*(q.i:Int)).toNat*1=_;omega
       have hso:off (yc o (slO c (8*(q.i:Int)).toNat) ty5.sz)=off o+8*q.i:=by rw [zv,xa (by omega)];show off o+(8*(q.i:Int)).toNat*1=_;omega
       have hpw:off (yc o (slO c (8*(q.i:Int)).toNat) ty5.sz)+((8*(q.i:Int)+8).toNat-(8*(q.i:Int)).toNat)≤l.length:=by rw [hso];omega
       have hpw2:off (yc o (slO c (8*(q.i:Int)).toNat) ty5.sz)+((8*(q.i:Int)+8).toNat-(8*(q.i:Int)).toNat)≤l.length∧(8*(q.i:Int)+8).toNat-(8*(q.i:Int)).toNat≤1000:=⟨hpw,by omega⟩
       have hnum:num (List.take ((8*(q.i:Int)+8).toNat-(8*(q.i:Int)).toNat) (List.drop (off (yc o (slO c (8*(q.i:Int)).toNat) ty5.sz)) l))=num ((B.drop (8*q.i)).take 8):=by
         rw [hso,hB,show (8*(q.i:Int)+8).toNat-(8*(q.i:Int)).toNat=8 by omega,List.drop_take,List.take_take,List.drop_drop,Nat.min_eq_left (by omega)]
       refine wk ?_
       refine ⟨⟨q.i+1,h4⟩,[0,1,2],by show (80)-(q.i+1)<(80)-q.i;omega,?_⟩
       repeat ((conv=>whnf);refine za ?_)
       conv=>whnf
       refine zh (congrArg (fun x=>SV.agg [SV.arr64 80 x]) (show _=x6 B (q.i+1) by rw [hnum,hx0,z5w h16])) ?_
       repeat ((conv=>whnf);refine za ?_)
       exact trivial
      ·have hx15:off (yc [] ((q.i:Int)-15).toNat x4.sz)=q.i-15:=by rw [zv];show 0+((q.i:Int)-15).toNat*1=_;omega
       have hx2:off (yc [] ((q.i:Int)-2).toNat x4.sz)=q.i-2:=by rw [zv];show 0+((q.i:Int)-2).toNat*1=_;omega
       have hx16:off (yc [] ((q.i:Int)-16).toNat x4.sz)=q.i-16:=by rw [zv];show 0+((q.i:Int)-16).toNat*1=_;omega
       have hx7:off (yc [] ((q.i:Int)-7).toNat x4.sz)=q.i-7:=by rw [zv];show 0+((q.i:Int)-7).toNat*1=_;omega
       refine wk ?_
       refine ⟨⟨q.i+1,h4⟩,[0,1,2],by show (80)-(q.i+1)<(80)-q.i;omega,?_⟩
       repeat ((conv=>whnf);refine za ?_)
       conv=>whnf
       refine zh (congrArg (fun x=>SV.agg [SV.arr64 80 x]) (show _=x6 B (q.i+1) by rw [hx0,hx15,hx2,hx16,hx7,z41 h16];rfl)) ?_
       repeat ((conv=>whnf);refine za ?_)
       exact trivial
     ·have e4:q.i=80:=by omega
      rw [e4] at hwl
      rw [e4]
      generalize hW:x6 B 80=W at*
      clear hx0 hi h4 e4 q
      refine wk ?_
      have hSl:=hH
      refine zt (Ix (80)) (fun q=>⟨[(0,.ptr 0 0 0 []),(4,.ptr 2 0 0 []),(8,.ptr 3 0 0 []),(72,.int q.i)],[.mk t0 [.int m,.arr64 8 H,.arr64 80 k,.sl 1 0 0 [] rn rc,.u64 all],.mk t [.arr8 L l],.mk 195 [.arr64 80 W],.mk 193 [.arr64 8 (zgf k W H q.i)]]⟩) (fun q=>(80)-q.i) ⟨0,Nat.zero_le _⟩ [0,1,2,3] ?_ ?_
      ·repeat ((conv=>whnf);refine za ?_)
       conv=>whnf
       refine zh (congrArg (fun x=>SV.agg [SV.arr64 8 x]) (show _=zgf k W H 0 by unfold zgf;rfl)) ?_
       repeat ((conv=>whnf);refine za ?_)
       exact trivial
      ·intro q
       have hi:=q.hi
       have hrl:=zvn (k:=k) (w:=W) hSl q.i
       have hx0:off (yc [] ((q.i:Int)).toNat x4.sz)=q.i:=by rw [zv];show 0+((q.i:Int)).toNat*1=_;omega
       have hy0:off (yc [] ((q.i:Int)).toNat x4.sz)=q.i:=by rw [zv];show 0+((q.i:Int)).toNat*1=_;omega
       by_cases h4:q.i<80
       ·refine wk ?_
        conv=>whnf
        refine ⟨⟨q.i+1,h4⟩,[0,1,2,3],by show (80)-(q.i+1)<(80)-q.i;omega,?_⟩
        repeat ((conv=>whnf);refine za ?_)
        conv=>whnf
        refine zh (congrArg (fun x=>SV.agg [SV.arr64 8 x]) (show _=zgf k W H (q.i+1) by simp only [zgf];rw [←hx0];rfl)) ?_
        repeat ((conv=>whnf);refine za ?_)
        exact trivial
       ·have e4:q.i=80:=by omega
        rw [e4] at hrl
        rw [e4]
        obtain ⟨Z,hZ⟩: ∃Z,Z=zgf k W H 80:=⟨_,rfl⟩
        rw [←hZ] at hrl
        rw [←hZ]
        clear hy0 hx0 hi h4 e4 q
        refine wk ?_
        refine zt (Ix (8)) (fun q=>⟨[(0,.ptr 0 0 0 []),(4,.ptr 2 0 0 []),(8,.ptr 3 0 0 []),(157,.int q.i)],[.mk t0 [.int m,.arr64 8 (ovr H 0 (fun i=>g64 H i+g64 Z i) q.i),.arr64 80 k,.sl 1 0 0 [] rn rc,.u64 all],.mk t [.arr8 L l],.mk 195 [.arr64 80 W],.mk 193 [.arr64 8 Z]]⟩) (fun q=>(8)-q.i) ⟨0,Nat.zero_le _⟩ [0,1,2,3] ?_ ?_
        ·repeat ((conv=>whnf);refine za ?_)
         exact trivial
        ·intro q
         have hi:=q.hi
         have hlo:=yn (l:=H) (a:=0) (i:=q.i) (by omega) (fun i=>g64 H i+g64 Z i)
         have hI:((q.i:Int)).toNat=q.i:=Int.toNat_natCast _
         by_cases h4:q.i<8
         ·refine wk ?_
          refine ⟨⟨q.i+1,h4⟩,[0,1,2,3],by show (8)-(q.i+1)<(8)-q.i;omega,?_⟩
          repeat ((conv=>whnf);refine za ?_)
          conv=>whnf
          refine zh (congrArg (fun x=>SV.agg [SV.int m,SV.arr64 8 x,SV.arr64 80 k,SV.sl 1 0 0 [] rn rc,SV.u64 all]) (yb (by omega) ?hv ?hkk)) ?_
          case hkk=>show ((q.i:Int)).toNat=0+q.i;omega
          case hv=>
            show List.getD (ovr H 0 (fun i=>g64 H i+g64 Z i) q.i) ((q.i:Int)).toNat 0+List.getD Z ((q.i:Int)).toNat 0=_
            rw [yt (by omega) _ (by omega),hI];rfl
          repeat ((conv=>whnf);refine za ?_)
          exact trivial
         ·have e4:q.i=8:=by omega
          have hfin:ovr H 0 (fun i=>g64 H i+g64 Z i) 8=zhf k H B:=by
            rw [xu hH];unfold zhf;rw [hW,←hZ]
          rw [e4,hfin]
          refine wk ?_
          exact ze (hp':= [.mk t0 [.int m,.arr64 8 (zhf k H B),.arr64 80 k,.sl 1 0 0 [] rn rc,.u64 all],.mk t [.arr8 L l]]) [0,1] h
   ·exact h.elim
end Go.Sym.A

namespace Go.Sym.A
open Go Go.Proofs.Try Go.Sym.Lp Go.Sym.Cha Go.Sym.Sha
set_option maxRecDepth 100000
attribute [local irreducible] zhq zhf xw KC HB za1
def z61:List (Nat×List PStep):= []
def z6s:List (Nat×List PStep):= []
def z6t:List (Nat×List PStep):= []
def z7l:List (Nat×List PStep):= []
def z6z:List (Nat×List PStep):= []
def ztj:Spec:=fun args hp K=>match args,hp with
  | [.ptr 0 0 0 [],.sl 1 0 0 o n c],[.mk t0 [.int m,.arr64 8 H,.arr64 80 k,.sl 1 0 0 [] rn rc,.u64 all],.mk t [.arr8 L l]]=>Pre (H.length=8∧k.length=80∧bk m≤n∧off o+n≤l.length∧n≤c)
      (K (.tup []) [.mk t0 [.int m,.arr64 8 (za1 m k H ((l.drop (off o)).take (bk m))),.arr64 80 k,.sl 1 0 0 [] rn rc,.u64 all],.mk t [.arr8 L l]])
  |_,_=>False
theorem z1q:zp prog 140 ztj:=by
  refine zo x0 (zd zz8 (zd z0r zk)) rfl func140 rfl call140 (D:=z61) ?_ ?_
  ·intro args hp K h
   unfold ztj at h
   split at h
   ·exact Nat.le_of_ble_eq_true rfl
   ·exact h.elim
  ·intro args hp K h
   unfold ztj at h
   split at h
   ·rename_i o n c t0 m H k rn rc all t L l
    obtain ⟨⟨hH,hk,hn,hl,hc⟩,h⟩:=zl h
    by_cases hm:m=256
    ·have hb:bk m=64:=by unfold bk;rw [if_pos hm]
     have hT:za1 m k H ((l.drop (off o)).take (bk m))=zhq k H ((l.drop (off o)).take 64):=by unfold za1;rw [if_pos hm,hb]
     rw [hT] at h
     rw [hb] at hn
     have hp:H.length=8∧k.length=80∧64≤n∧off o+n≤l.length∧n≤c:=⟨hH,hk,hn,hl,hc⟩
     refine wk ?_
     exact ze (hp':= [.mk t0 [.int m,.arr64 8 (zhq k H ((l.drop (off o)).take 64)),.arr64 80 k,.sl 1 0 0 [] rn rc,.u64 all],.mk t [.arr8 L l]]) [0,1] h
    ·have hb:bk m=128:=by unfold bk;rw [if_neg hm]
     have hT:za1 m k H ((l.drop (off o)).take (bk m))=zhf k H ((l.drop (off o)).take 128):=by unfold za1;rw [if_neg hm,hb]
     rw [hT] at h
     rw [hb] at hn
     have hp:H.length=8∧k.length=80∧128≤n∧off o+n≤l.length∧n≤c:=⟨hH,hk,hn,hl,hc⟩
     refine wk ?_
     exact ze (hp':= [.mk t0 [.int m,.arr64 8 (zhf k H ((l.drop (off o)).take 128)),.arr64 80 k,.sl 1 0 0 [] rn rc,.u64 all],.mk t [.arr8 L l]]) [0,1] h
   ·exact h.elim
def zpl:Spec:=fun args hp K=>match args,hp with
  | [.ptr 0 0 0 []],[.mk t0 [.int m,.arr64 8 H,.arr64 80 k,.nilsl,.u64 all]]=>K (.int (bk m:Nat)) [.mk t0 [.int m,.arr64 8 H,.arr64 80 k,.nilsl,.u64 all]]
  | [.ptr 0 0 0 []],[.mk t0 [.int m,.arr64 8 H,.arr64 80 k,.sl 1 0 0 [] rn rc,.u64 all],.mk t [.arr8 L l]]=>K (.int (bk m:Nat)) [.mk t0 [.int m,.arr64 8 H,.arr64 80 k,.sl 1 0 0 [] rn rc,.u64 all],.mk t [.arr8 L l]]
  |_,_=>False
theorem zrs:zp prog 139 zpl:=by
  refine zo x0 zk rfl func139 rfl call139 (D:=z6s) ?_ ?_
  ·intro args hp K h
   unfold zpl at h
   split at h
   ·exact Nat.le_of_ble_eq_true rfl
   ·exact Nat.le_of_ble_eq_true rfl
   ·exact h.elim
  ·intro args hp K h
   unfold zpl at h
   split at h
   ·rename_i t0 m H k all
    by_cases hm:m=256
    ·have hb:bk m=64:=by unfold bk;rw [if_pos hm]
     rw [hb] at h
     refine wk ?_
     exact ze (hp':= [.mk t0 [.int m,.arr64 8 H,.arr64 80 k,.nilsl,.u64 all]]) [0] h
    ·have hb:bk m=128:=by unfold bk;rw [if_neg hm]
     rw [hb] at h
     refine wk ?_
     exact ze (hp':= [.mk t0 [.int m,.arr64 8 H,.arr64 80 k,.nilsl,.u64 all]]) [0] h
   ·rename_i t0 m H k rn rc all t L l
    by_cases hm:m=256
    ·have hb:bk m=64:=by unfold bk;rw [if_pos hm]
     rw [hb] at h
     refine wk ?_
     exact ze (hp':= [.mk t0 [.int m,.arr64 8 H,.arr64 80 k,.sl 1 0 0 [] rn rc,.u64 all],.mk t [.arr8 L l]]) [0,1] h
    ·have hb:bk m=128:=by unfold bk;rw [if_neg hm]
     rw [hb] at h
     refine wk ?_
     exact ze (hp':= [.mk t0 [.int m,.arr64 8 H,.arr64 80 k,.sl 1 0 0 [] rn rc,.u64 all],.mk t [.arr8 L l]]) [0,1] h
   ·exact h.elim
def zpj:Spec:=fun args hp K=>match args,hp with
  | [.int n],[]=>K (.arr64 8 (HB n)) []
  |_,_=>False
theorem zxc:zp prog 136 zpj:=by
  refine zo x0 zk rfl func136 rfl call136 (D:=z6t) ?_ ?_
  ·intro args hp K h
   unfold zpj at h
   split at h
   ·exact Nat.le_of_ble_eq_true rfl
   ·exact h.elim
  ·intro args hp K h
   unfold zpj at h
   split at h
   ·rename_i n
    by_cases hn:n=256
    ·rw [show HB n=_ from by unfold HB;rw [if_pos hn]] at h
     refine wk ?_
     exact ze (hp':= []) [] h
    ·rw [show HB n=_ from by unfold HB;rw [if_neg hn]] at h
     refine wk ?_
     exact ze (hp':= []) [] h
   ·exact h.elim
def zph:Spec:=fun args hp K=>match args,hp with
  | [],[]=>K (.arr64 80 KC) []
  |_,_=>False
theorem zxn:zp prog 137 zph:=by
  refine zo x0 zk rfl func137 rfl call137 (D:=z7l) ?_ ?_
  ·intro args hp K h
   unfold zph at h
   split at h
   ·exact Nat.le_of_ble_eq_true rfl
   ·exact h.elim
  ·intro args hp K h
   unfold zph at h
   split at h
   ·refine wk ?_
    refine yl (hp':= []) [] h ?_
    repeat ((conv=>whnf);refine za ?_)
    conv=>whnf
    refine zh (congrArg (SV.arr64 80) (show _=KC by unfold KC;decide+kernel)) ?_
    repeat ((conv=>whnf);refine za ?_)
    exact trivial
   ·exact h.elim
def zzq:Spec:=fun args hp K=>match args,hp with
  | [.int n],[]=>zr (decide (n=256∨n=384)) (K (.tup [.ptr 0 0 0 [],.int 0]) [.mk 198 [.int n,.arr64 8 (HB n),.arr64 80 KC,.nilsl,.u64 0]]) (K (.tup [.nilptr,.int 200]) [])
  |_,_=>False
theorem zy6:zp prog 131 zzq:=by
  refine zo x0 (zd zxc (zd zxn zk)) rfl func131 rfl call131 (D:=z6z) ?_ ?_
  ·intro args hp K h
   unfold zzq at h
   split at h
   ·exact Nat.le_of_ble_eq_true rfl
   ·exact h.elim
  ·intro args hp K h
   unfold zzq at h
   split at h
   ·rename_i n
    obtain ⟨ht,hf⟩:=zu h
    have hl:=zpc n
    have hk:=zpb
    by_cases h1:n=256
    ·have h:=ht (decide_eq_true (.inl h1))
     refine wk ?_
     exact ze (hp':= [.mk 198 [.int n,.arr64 8 (HB n),.arr64 80 KC,.nilsl,.u64 0]]) [0] h
    ·by_cases h2:n=384
     ·have h:=ht (decide_eq_true (.inr h2))
      refine wk ?_
      exact ze (hp':= [.mk 198 [.int n,.arr64 8 (HB n),.arr64 80 KC,.nilsl,.u64 0]]) [0] h
     ·have h:=hf (decide_eq_false (by omega))
      refine wk ?_
      exact ze (hp':= []) [] h
   ·exact h.elim
end Go.Sym.A

namespace Go.Sym.A
open Go Go.Proofs.Try Go.Sym.Lp Go.Sym.Cha Go.Sym.Sha
set_option maxRecDepth 100000
attribute [local irreducible] xw KC HB za1 wrH wrR bk
def z6y:List (Nat×List PStep):= []
theorem zfi (n:Nat):UInt64.ofInt (n:Int)=UInt64.ofNat n:=by
  apply UInt64.toNat_inj.1
  unfold UInt64.ofInt
  rw [UInt64.toNat_ofNat',UInt64.toNat_ofNat']
  omega
theorem zo6 (n:Int) (k h:List UInt64) (R s:List UInt8) {b:Nat} (hb:bk n=b):wrH n k h R s=xw n k h (R++s) ((R++s).length/ b):=by unfold wrH;rw [hb]
theorem zoh (n:Int) (R s:List UInt8) {b:Nat} (hb:bk n=b):wrR n R s=(R++s).drop (b*((R++s).length/ b)):=by unfold wrR;rw [hb]
theorem zll (n:Int) (k h:List UInt64) (B:List UInt8):xw n k h B 0=h:=by unfold xw;rfl
theorem zoy (n:Int) (k h:List UInt64) (B:List UInt8) (t:Nat) {b:Nat} (hb:bk n=b):xw n k h B (t+1)=za1 n k (xw n k h B t) ((B.drop (b*t)).take b):=by simp only [xw];rw [hb]
def zpk:Spec:=fun args hp K=>match args,hp with
  | [.ptr 0 0 0 [],.str s],[.mk t0 [.int m,.arr64 8 H,.arr64 80 k,.nilsl,.u64 all]]=>Pre (H.length=8∧k.length=80∧s.length≤140737488351232)
      (zr (decide ((wrR m [] s).length=0)) (K (.tup []) [.mk t0 [.int m,.arr64 8 (wrH m k H [] s),.arr64 80 k,.nilsl,.u64 (all+UInt64.ofNat s.length)]])
        (zb4 fun tl:List UInt8=>K (.tup []) [.mk t0 [.int m,.arr64 8 (wrH m k H [] s),.arr64 80 k,.sl 1 0 0 [] (wrR m [] s).length ((wrR m [] s).length+tl.length),.u64 (all+UInt64.ofNat s.length)],.mk 5 [.arr8 ((wrR m [] s).length+tl.length) (wrR m [] s++tl)]]))
  | [.ptr 0 0 0 [],.str s],[.mk t0 [.int m,.arr64 8 H,.arr64 80 k,.sl 1 0 0 [] r c,.u64 all],.mk t [.arr8 L l]]=>Pre (H.length=8∧k.length=80∧s.length≤140737488351232∧0<r∧r≤c∧r≤128∧c=l.length∧L=c)
      (zr (decide ((wrR m (l.take r) s).length=0)) (K (.tup []) [.mk t0 [.int m,.arr64 8 (wrH m k H (l.take r) s),.arr64 80 k,.nilsl,.u64 (all+UInt64.ofNat s.length)],.dead])
        (zb4 fun tl:List UInt8=>K (.tup []) [.mk t0 [.int m,.arr64 8 (wrH m k H (l.take r) s),.arr64 80 k,.sl 2 0 0 [] (wrR m (l.take r) s).length ((wrR m (l.take r) s).length+tl.length),.u64 (all+UInt64.ofNat s.length)],.dead,.mk 5 [.arr8 ((wrR m (l.take r) s).length+tl.length) (wrR m (l.take r) s++tl)]]))
  |_,_=>False
set_option maxHeartbeats 8000000 in
theorem zg2:zp prog 133 zpk:=by
  refine zo x0 (zd zrs (zd z1q zk)) rfl func133 rfl call133 (D:=z6y) ?_ ?_
  ·intro args hp K h
   unfold zpk at h
   split at h
   ·exact Nat.le_of_ble_eq_true rfl
   ·exact Nat.le_of_ble_eq_true rfl
   ·exact h.elim
  ·intro args hp K h
   unfold zpk at h
   split at h
   ·rename_i s t0 m H k all
    obtain ⟨⟨hH,hk,hs⟩,h⟩:=zl h
    obtain ⟨ht,hf⟩:=zu h
    by_cases h0:s.length=0
    ·have e0:s= []:=List.length_eq_zero_iff.1 h0
     have hR0:wrR m [] s= []:=by unfold wrR;rw [e0];simp
     have hW0:wrH m k H [] s=H:=by unfold wrH;rw [e0,List.append_nil,List.length_nil,Nat.zero_div,zll]
     have hb:0<bk m:=zyi m
     have h:=ht (decide_eq_true (by rw [hR0];rfl))
     rw [hW0] at h
     have hal:all+UInt64.ofInt (s.length:Int)=all+UInt64.ofNat s.length:=by rw [zfi]
     refine wk ?_
     rw [hal]
     refine zt (Ix (0)) (fun q=>⟨[(0,.ptr 0 0 0 []),(4,.int (bk m:Nat)),(5,.int 0)],[.mk t0 [.int m,.arr64 8 H,.arr64 80 k,.nilsl,.u64 (all+UInt64.ofNat s.length)]]⟩) (fun q=>(0)-q.i) ⟨0,Nat.zero_le _⟩ [0] ?_ ?_
     ·repeat ((conv=>whnf);refine za ?_)
      exact trivial
     ·intro q
      refine wk ?_
      refine zq (by unfold zlf;exact ⟨rfl,trivial,trivial⟩) ?_
      refine wk ?_
      exact ze (hp':= [.mk t0 [.int m,.arr64 8 H,.arr64 80 k,.nilsl,.u64 (all+UInt64.ofNat s.length)]]) [0] h
    ·refine wk ?_
     refine yq fun t1=>?_
     refine wk ?_
     by_cases hm:m=256
     ·have hb:bk m=64:=by unfold bk;rw [if_pos hm]
      have hRl:s.length=s.length:=by rfl
      have hLl:(s++t1).length=(s.length+t1.length):=by rw [List.length_append,hRl]
      have hW:wrH m k H [] s=xw m k H s (s.length/ 64):=by rw [zo6 m k H [] s hb,List.nil_append]
      have hRr:wrR m [] s=s.drop (64*(s.length/ 64)):=by rw [zoh m [] s hb,List.nil_append]
      have hRrl:(wrR m [] s).length=s.length-64*(s.length/ 64):=by rw [hRr,List.length_drop,hRl]
      rw [hb]
      refine zt (Ix ((s.length/ 64))) (fun q=>⟨[(0,.ptr 0 0 0 []),(4,.int 64),(5,.int (64*(q.i:Int)))],[.mk t0 [.int m,.arr64 8 (xw m k H s q.i),.arr64 80 k,.sl 1 0 0 [] s.length (s.length+t1.length),.u64 (all+UInt64.ofNat s.length)],.mk 5 [.arr8 (s.length+t1.length) (s++t1)]]⟩) (fun q=>((s.length/ 64))-q.i) ⟨0,Nat.zero_le _⟩ [0,1] ?_ ?_
      ·repeat ((conv=>whnf);refine za ?_)
       conv=>whnf
       refine zh (show SV.agg [SV.int m,SV.arr64 8 H,SV.arr64 80 k,SV.sl 1 0 0 [] s.length (s.length+t1.length),SV.u64 (all+UInt64.ofInt (s.length:Int))]=SV.agg [SV.int m,SV.arr64 8 (xw m k H s 0),SV.arr64 80 k,SV.sl 1 0 0 [] s.length (s.length+t1.length),SV.u64 (all+UInt64.ofNat s.length)] by rw [zll,zfi]) ?_
       repeat ((conv=>whnf);refine za ?_)
       exact trivial
      ·intro q
       have hi:=q.hi
       have htl:=ze5 (n:=m) (k:=k) hH s q.i
       by_cases h4:q.i<s.length/ 64
       ·have hof:(off (yc [] (slO (s.length+t1.length) (64*(q.i:Int)).toNat) ty5.sz))=64*q.i:=by rw [zv,xa (by omega)];show 0+(64*(q.i:Int)).toNat*1=_;omega
        have hpc:(xw m k H s q.i).length=8∧k.length=80∧bk m≤(64*(q.i:Int)+64).toNat-(64*(q.i:Int)).toNat∧(off (yc [] (slO (s.length+t1.length) (64*(q.i:Int)).toNat) ty5.sz))+((64*(q.i:Int)+64).toNat-(64*(q.i:Int)).toNat)≤(s++t1).length∧(64*(q.i:Int)+64).toNat-(64*(q.i:Int)).toNat≤(s.length+t1.length)-(64*(q.i:Int)).toNat:=⟨htl,hk,by omega,by rw [hof,hLl];omega,by omega⟩
        have hps:(off (yc [] (slO (s.length+t1.length) (64*(q.i:Int)).toNat) ty5.sz))+((64*(q.i:Int)+64).toNat-(64*(q.i:Int)).toNat)≤(s++t1).length:=hpc.2.2.2.1
        refine wk ?_
        refine ⟨⟨q.i+1,h4⟩,[0,1],by show ((s.length/ 64))-(q.i+1)<((s.length/ 64))-q.i;omega,?_⟩
        repeat ((conv=>whnf);refine za ?_)
        conv=>whnf
        refine zh (congrArg (fun x=>SV.agg [SV.int m,SV.arr64 8 x,SV.arr64 80 k,SV.sl 1 0 0 [] s.length (s.length+t1.length),SV.u64 (all+UInt64.ofNat s.length)]) (show za1 m k (xw m k H s q.i) (List.take (bk m) (List.drop (off (yc [] (slO (s.length+t1.length) (64*(q.i:Int)).toNat) ty5.sz)) (s++t1)))=xw m k H s (q.i+1) by rw [zoy m k H s q.i hb,hof,hb,List.drop_append_of_le_length (by omega),List.take_append_of_le_length (by rw [List.length_drop];omega)])) ?_
        repeat ((conv=>whnf);refine za ?_)
        exact trivial
       ·have e4:q.i=s.length/ 64:=by omega
        have hpe:(off (yc [] (slO (s.length+t1.length) (64*(q.i:Int)).toNat) ty5.sz))+(s.length-(64*(q.i:Int)).toNat)≤(s++t1).length:=by
          rw [zv,hLl]
          show 0+slO _ _*1+_≤_
          by_cases e:(s.length+t1.length)=(64*(q.i:Int)).toNat
          ·unfold slO;split<;>omega
          ·rw [xa e];omega
        have hraw:List.take (s.length-(64*(q.i:Int)).toNat) (List.drop (off (yc [] (slO (s.length+t1.length) (64*(q.i:Int)).toNat) ty5.sz)) (s++t1))=wrR m [] s:=by
          rw [hRr,show (64*(q.i:Int)).toNat=64*(s.length/ 64) by omega]
          by_cases e:s.length-64*(s.length/ 64)=0
          ·rw [e,List.take_zero]
           exact (List.drop_eq_nil_of_le (by omega)).symm
          ·rw [zv,xa (show (s.length+t1.length)≠64*(s.length/ 64) by omega)]
           show List.take _ (List.drop (0+64*(s.length/ 64)*1) _)=_
           rw [Nat.zero_add,Nat.mul_one,List.drop_append_of_le_length (by omega),List.take_left' (by rw [List.length_drop]<;>omega)]
        have hH2:xw m k H s q.i=wrH m k H [] s:=by rw [hW,e4]
        rw [hH2]
        clear htl
        have hwl:=zaf (n:=m) (k:=k) hH [] s
        by_cases hz:(wrR m [] s).length=0
        ·have h:=ht (decide_eq_true hz)
         refine wk ?_
         exact ze (hp':= [.mk t0 [.int m,.arr64 8 (wrH m k H [] s),.arr64 80 k,.nilsl,.u64 (all+UInt64.ofNat s.length)]]) [0] h
        ·have h:=hf (decide_eq_false hz)
         refine wk ?_
         rw [hraw]
         refine wk ?_
         refine yq fun t2=>?_
         have h:=za4 h t2
         refine wk ?_
         conv=>whnf
         exact ze (hp':= [.mk t0 [.int m,.arr64 8 (wrH m k H [] s),.arr64 80 k,.sl 1 0 0 [] (wrR m [] s).length ((wrR m [] s).length+t2.length),.u64 (all+UInt64.ofNat s.length)],.mk 5 [.arr8 ((wrR m [] s).length+t2.length) (wrR m [] s++t2)]]) [0,2] h
     ·have hb:bk m=128:=by unfold bk;rw [if_neg hm]
      have hRl:s.length=s.length:=by rfl
      have hLl:(s++t1).length=(s.length+t1.length):=by rw [List.length_append,hRl]
      have hW:wrH m k H [] s=xw m k H s (s.length/ 128):=by rw [zo6 m k H [] s hb,List.nil_append]
      have hRr:wrR m [] s=s.drop (128*(s.length/ 128)):=by rw [zoh m [] s hb,List.nil_append]
      have hRrl:(wrR m [] s).length=s.length-128*(s.length/ 128):=by rw [hRr,List.length_drop,hRl]
      rw [hb]
      refine zt (Ix ((s.length/ 128))) (fun q=>⟨[(0,.ptr 0 0 0 []),(4,.int 128),(5,.int (128*(q.i:Int)))],[.mk t0 [.int m,.arr64 8 (xw m k H s q.i),.arr64 80 k,.sl 1 0 0 [] s.length (s.length+t1.length),.u64 (all+UInt64.ofNat s.length)],.mk 5 [.arr8 (s.length+t1.length) (s++t1)]]⟩) (fun q=>((s.length/ 128))-q.i) ⟨0,Nat.zero_le _⟩ [0,1] ?_ ?_
      ·repeat ((conv=>whnf);refine za ?_)
       conv=>whnf
       refine zh (show SV.agg [SV.int m,SV.arr64 8 H,SV.arr64 80 k,SV.sl 1 0 0 [] s.length (s.length+t1.length),SV.u64 (all+UInt64.ofInt (s.length:Int))]=SV.agg [SV.int m,SV.arr64 8 (xw m k H s 0),SV.arr64 80 k,SV.sl 1 0 0 [] s.length (s.length+t1.length),SV.u64 (all+UInt64.ofNat s.length)] by rw [zll,zfi]) ?_
       repeat ((conv=>whnf);refine za ?_)
       exact trivial
      ·intro q
       have hi:=q.hi
       have htl:=ze5 (n:=m) (k:=k) hH s q.i
       by_cases h4:q.i<s.length/ 128
       ·have hof:(off (yc [] (slO (s.length+t1.length) (128*(q.i:Int)).toNat) ty5.sz))=128*q.i:=by rw [zv,xa (by omega)];show 0+(128*(q.i:Int)).toNat*1=_;omega
        have hpc:(xw m k H s q.i).length=8∧k.length=80∧bk m≤(128*(q.i:Int)+128).toNat-(128*(q.i:Int)).toNat∧(off (yc [] (slO (s.length+t1.length) (128*(q.i:Int)).toNat) ty5.sz))+((128*(q.i:Int)+128).toNat-(128*(q.i:Int)).toNat)≤(s++t1).length∧(128*(q.i:Int)+128).toNat-(128*(q.i:Int)).toNat≤(s.length+t1.length)-(128*(q.i:Int)).toNat:=⟨htl,hk,by omega,by rw [hof,hLl];omega,by omega⟩
        have hps:(off (yc [] (slO (s.length+t1.length) (128*(q.i:Int)).toNat) ty5.sz))+((128*(q.i:Int)+128).toNat-(128*(q.i:Int)).toNat)≤(s++t1).length:=hpc.2.2.2.1
        refine wk ?_
        refine ⟨⟨q.i+1,h4⟩,[0,1],by show ((s.length/ 128))-(q.i+1)<((s.length/ 128))-q.i;omega,?_⟩
        repeat ((conv=>whnf);refine za ?_)
        conv=>whnf
        refine zh (congrArg (fun x=>SV.agg [SV.int m,SV.arr64 8 x,SV.arr64 80 k,SV.sl 1 0 0 [] s.length (s.length+t1.length),SV.u64 (all+UInt64.ofNat s.length)]) (show za1 m k (xw m k H s q.i) (List.take (bk m) (List.drop (off (yc [] (slO (s.length+t1.length) (128*(q.i:Int)).toNat) ty5.sz)) (s++t1)))=xw m k H s (q.i+1) by rw [zoy m k H s q.i hb,hof,hb,List.drop_append_of_le_length (by omega),List.take_append_of_le_length (by rw [List.length_drop];omega)])) ?_
        repeat ((conv=>whnf);refine za ?_)
        exact trivial
       ·have e4:q.i=s.length/ 128:=by omega
        have hpe:(off (yc [] (slO (s.length+t1.length) (128*(q.i:Int)).toNat) ty5.sz))+(s.length-(128*(q.i:Int)).toNat)≤(s++t1).length:=by
          rw [zv,hLl]
          show 0+slO _ _*1+_≤_
          by_cases e:(s.length+t1.length)=(128*(q.i:Int)).toNat
          ·unfold slO;split<;>omega
          ·rw [xa e];omega
        have hraw:List.take (s.length-(128*(q.i:Int)).toNat) (List.drop (off (yc [] (slO (s.length+t1.length) (128*(q.i:Int)).toNat) ty5.sz)) (s++t1))=wrR m [] s:=by
          rw [hRr,show (128*(q.i:Int)).toNat=128*(s.length/ 128) by omega]
          by_cases e:s.length-128*(s.length/ 128)=0
          ·rw [e,List.take_zero]
           exact (List.drop_eq_nil_of_le (by omega)).symm
          ·rw [zv,xa (show (s.length+t1.length)≠128*(s.length/ 128) by omega)]
           show List.take _ (List.drop (0+128*(s.length/ 128)*1) _)=_
           rw [Nat.zero_add,Nat.mul_one,List.drop_append_of_le_length (by omega),List.take_left' (by rw [List.length_drop]<;>omega)]
        have hH2:xw m k H s q.i=wrH m k H [] s:=by rw [hW,e4]
        rw [hH2]
        clear htl
        have hwl:=zaf (n:=m) (k:=k) hH [] s
        by_cases hz:(wrR m [] s).length=0
        ·have h:=ht (decide_eq_true hz)
         refine wk ?_
         exact ze (hp':= [.mk t0 [.int m,.arr64 8 (wrH m k H [] s),.arr64 80 k,.nilsl,.u64 (all+UInt64.ofNat s.length)]]) [0] h
        ·have h:=hf (decide_eq_false hz)
         refine wk ?_
         rw [hraw]
         refine wk ?_
         refine yq fun t2=>?_
         have h:=za4 h t2
         refine wk ?_
         conv=>whnf
         exact ze (hp':= [.mk t0 [.int m,.arr64 8 (wrH m k H [] s),.arr64 80 k,.sl 1 0 0 [] (wrR m [] s).length ((wrR m [] s).length+t2.length),.u64 (all+UInt64.ofNat s.length)],.mk 5 [.arr8 ((wrR m [] s).length+t2.length) (wrR m [] s++t2)]]) [0,2] h
   ·rename_i s t0 m H k r c all t L l
    obtain ⟨⟨hH,hk,hs,hr0,hr,hr2,hc,hL⟩,h⟩:=zl h
    obtain ⟨ht,hf⟩:=zu h
    refine wk ?_
    refine yq fun t1=>?_
    refine wk ?_
    by_cases hm:m=256
    ·have hb:bk m=64:=by unfold bk;rw [if_pos hm]
     have hRl:(l.take r++s).length=(r+s.length):=by rw [List.length_append,List.length_take];omega
     have hLl:((l.take r++s)++t1).length=((r+s.length)+t1.length):=by rw [List.length_append,hRl]
     have hW:wrH m k H (l.take r) s=xw m k H (l.take r++s) ((r+s.length)/ 64):=by rw [zo6 m k H (l.take r) s hb,hRl]
     have hRr:wrR m (l.take r) s=(l.take r++s).drop (64*((r+s.length)/ 64)):=by rw [zoh m (l.take r) s hb,hRl]
     have hRrl:(wrR m (l.take r) s).length=(r+s.length)-64*((r+s.length)/ 64):=by rw [hRr,List.length_drop,hRl]
     rw [hb]
     refine zt (Ix (((r+s.length)/ 64))) (fun q=>⟨[(0,.ptr 0 0 0 []),(4,.int 64),(5,.int (64*(q.i:Int)))],[.mk t0 [.int m,.arr64 8 (xw m k H (l.take r++s) q.i),.arr64 80 k,.sl 2 0 0 [] (r+s.length) ((r+s.length)+t1.length),.u64 (all+UInt64.ofNat s.length)],.dead,.mk 5 [.arr8 ((r+s.length)+t1.length) ((l.take r++s)++t1)]]⟩) (fun q=>(((r+s.length)/ 64))-q.i) ⟨0,Nat.zero_le _⟩ [0,1,2] ?_ ?_
     ·repeat ((conv=>whnf);refine za ?_)
      conv=>whnf
      refine zh (show SV.agg [SV.int m,SV.arr64 8 H,SV.arr64 80 k,SV.sl 2 0 0 [] (r+s.length) ((r+s.length)+t1.length),SV.u64 (all+UInt64.ofInt (s.length:Int))]=SV.agg [SV.int m,SV.arr64 8 (xw m k H (l.take r++s) 0),SV.arr64 80 k,SV.sl 2 0 0 [] (r+s.length) ((r+s.length)+t1.length),SV.u64 (all+UInt64.ofNat s.length)] by rw [zll,zfi]) ?_
      repeat ((conv=>whnf);refine za ?_)
      exact trivial
     ·intro q
      have hi:=q.hi
      have htl:=ze5 (n:=m) (k:=k) hH (l.take r++s) q.i
      by_cases h4:q.i<(r+s.length)/ 64
      ·have hof:(off (yc [] (slO ((r+s.length)+t1.length) (64*(q.i:Int)).toNat) ty5.sz))=64*q.i:=by rw [zv,xa (by omega)];show 0+(64*(q.i:Int)).toNat*1=_;omega
       have hpc:(xw m k H (l.take r++s) q.i).length=8∧k.length=80∧bk m≤(64*(q.i:Int)+64).toNat-(64*(q.i:Int)).toNat∧(off (yc [] (slO ((r+s.length)+t1.length) (64*(q.i:Int)).toNat) ty5.sz))+((64*(q.i:Int)+64).toNat-(64*(q.i:Int)).toNat)≤((l.take r++s)++t1).length∧(64*(q.i:Int)+64).toNat-(64*(q.i:Int)).toNat≤((r+s.length)+t1.length)-(64*(q.i:Int)).toNat:=⟨htl,hk,by omega,by rw [hof,hLl];omega,by omega⟩
       have hps:(off (yc [] (slO ((r+s.length)+t1.length) (64*(q.i:Int)).toNat) ty5.sz))+((64*(q.i:Int)+64).toNat-(64*(q.i:Int)).toNat)≤((l.take r++s)++t1).length:=hpc.2.2.2.1
       refine wk ?_
       refine ⟨⟨q.i+1,h4⟩,[0,1,2],by show (((r+s.length)/ 64))-(q.i+1)<(((r+s.length)/ 64))-q.i;omega,?_⟩
       repeat ((conv=>whnf);refine za ?_)
       conv=>whnf
       refine zh (congrArg (fun x=>SV.agg [SV.int m,SV.arr64 8 x,SV.arr64 80 k,SV.sl 2 0 0 [] (r+s.length) ((r+s.length)+t1.length),SV.u64 (all+UInt64.ofNat s.length)]) (show za1 m k (xw m k H (l.take r++s) q.i) (List.take (bk m) (List.drop (off (yc [] (slO ((r+s.length)+t1.length) (64*(q.i:Int)).toNat) ty5.sz)) ((l.take r++s)++t1)))=xw m k H (l.take r++s) (q.i+1) by rw [zoy m k H (l.take r++s) q.i hb,hof,hb,List.drop_append_of_le_length (by omega),List.take_append_of_le_length (by rw [List.length_drop];omega)])) ?_
       repeat ((conv=>whnf);refine za ?_)
       exact trivial
      ·have e4:q.i=(r+s.length)/ 64:=by omega
       have hpe:(off (yc [] (slO ((r+s.length)+t1.length) (64*(q.i:Int)).toNat) ty5.sz))+((r+s.length)-(64*(q.i:Int)).toNat)≤((l.take r++s)++t1).length:=by
         rw [zv,hLl]
         show 0+slO _ _*1+_≤_
         by_cases e:((r+s.length)+t1.length)=(64*(q.i:Int)).toNat
         ·unfold slO;split<;>omega
         ·rw [xa e];omega
       have hraw:List.take ((r+s.length)-(64*(q.i:Int)).toNat) (List.drop (off (yc [] (slO ((r+s.length)+t1.length) (64*(q.i:Int)).toNat) ty5.sz)) ((l.take r++s)++t1))=wrR m (l.take r) s:=by
         rw [hRr,show (64*(q.i:Int)).toNat=64*((r+s.length)/ 64) by omega]
         by_cases e:(r+s.length)-64*((r+s.length)/ 64)=0
         ·rw [e,List.take_zero]
          exact (List.drop_eq_nil_of_le (by omega)).symm
         ·rw [zv,xa (show ((r+s.length)+t1.length)≠64*((r+s.length)/ 64) by omega)]
          show List.take _ (List.drop (0+64*((r+s.length)/ 64)*1) _)=_
          rw [Nat.zero_add,Nat.mul_one,List.drop_append_of_le_length (by omega),List.take_left' (by rw [List.length_drop]<;>omega)]
       have hH2:xw m k H (l.take r++s) q.i=wrH m k H (l.take r) s:=by rw [hW,e4]
       rw [hH2]
       clear htl
       have hwl:=zaf (n:=m) (k:=k) hH (l.take r) s
       by_cases hz:(wrR m (l.take r) s).length=0
       ·have h:=ht (decide_eq_true hz)
        refine wk ?_
        exact ze (hp':= [.mk t0 [.int m,.arr64 8 (wrH m k H (l.take r) s),.arr64 80 k,.nilsl,.u64 (all+UInt64.ofNat s.length)],.dead]) [0,1] h
       ·have h:=hf (decide_eq_false hz)
        refine wk ?_
        rw [hraw]
        refine wk ?_
        refine yq fun t2=>?_
        have h:=za4 h t2
        refine wk ?_
        conv=>whnf
        exact ze (hp':= [.mk t0 [.int m,.arr64 8 (wrH m k H (l.take r) s),.arr64 80 k,.sl 2 0 0 [] (wrR m (l.take r) s).length ((wrR m (l.take r) s).length+t2.length),.u64 (all+UInt64.ofNat s.length)],.dead,.mk 5 [.arr8 ((wrR m (l.take r) s).length+t2.length) (wrR m (l.take r) s++t2)]]) [0,1,3] h
    ·have hb:bk m=128:=by unfold bk;rw [if_neg hm]
     have hRl:(l.take r++s).length=(r+s.length):=by rw [List.length_append,List.length_take];omega
     have hLl:((l.take r++s)++t1).length=((r+s.length)+t1.length):=by rw [List.length_append,hRl]
     have hW:wrH m k H (l.take r) s=xw m k H (l.take r++s) ((r+s.length)/ 128):=by rw [zo6 m k H (l.take r) s hb,hRl]
     have hRr:wrR m (l.take r) s=(l.take r++s).drop (128*((r+s.length)/ 128)):=by rw [zoh m (l.take r) s hb,hRl]
     have hRrl:(wrR m (l.take r) s).length=(r+s.length)-128*((r+s.length)/ 128):=by rw [hRr,List.length_drop,hRl]
     rw [hb]
     refine zt (Ix (((r+s.length)/ 128))) (fun q=>⟨[(0,.ptr 0 0 0 []),(4,.int 128),(5,.int (128*(q.i:Int)))],[.mk t0 [.int m,.arr64 8 (xw m k H (l.take r++s) q.i),.arr64 80 k,.sl 2 0 0 [] (r+s.length) ((r+s.length)+t1.length),.u64 (all+UInt64.ofNat s.length)],.dead,.mk 5 [.arr8 ((r+s.length)+t1.length) ((l.take r++s)++t1)]]⟩) (fun q=>(((r+s.length)/ 128))-q.i) ⟨0,Nat.zero_le _⟩ [0,1,2] ?_ ?_
     ·repeat ((conv=>whnf);refine za ?_)
      conv=>whnf
      refine zh (show SV.agg [SV.int m,SV.arr64 8 H,SV.arr64 80 k,SV.sl 2 0 0 [] (r+s.length) ((r+s.length)+t1.length),SV.u64 (all+UInt64.ofInt (s.length:Int))]=SV.agg [SV.int m,SV.arr64 8 (xw m k H (l.take r++s) 0),SV.arr64 80 k,SV.sl 2 0 0 [] (r+s.length) ((r+s.length)+t1.length),SV.u64 (all+UInt64.ofNat s.length)] by rw [zll,zfi]) ?_
      repeat ((conv=>whnf);refine za ?_)
      exact trivial
     ·intro q
      have hi:=q.hi
      have htl:=ze5 (n:=m) (k:=k) hH (l.take r++s) q.i
      by_cases h4:q.i<(r+s.length)/ 128
      ·have hof:(off (yc [] (slO ((r+s.length)+t1.length) (128*(q.i:Int)).toNat) ty5.sz))=128*q.i:=by rw [zv,xa (by omega)];show 0+(128*(q.i:Int)).toNat*1=_;omega
       have hpc:(xw m k H (l.take r++s) q.i).length=8∧k.length=80∧bk m≤(128*(q.i:Int)+128).toNat-(128*(q.i:Int)).toNat∧(off (yc [] (slO ((r+s.length)+t1.length) (128*(q.i:Int)).toNat) ty5.sz))+((128*(q.i:Int)+128).toNat-(128*(q.i:Int)).toNat)≤((l.take r++s)++t1).length∧(128*(q.i:Int)+128).toNat-(128*(q.i:Int)).toNat≤((r+s.length)+t1.length)-(128*(q.i:Int)).toNat:=⟨htl,hk,by omega,by rw [hof,hLl];omega,by omega⟩
       have hps:(off (yc [] (slO ((r+s.length)+t1.length) (128*(q.i:Int)).toNat) ty5.sz))+((128*(q.i:Int)+128).toNat-(128*(q.i:Int)).toNat)≤((l.take r++s)++t1).length:=hpc.2.2.2.1
       refine wk ?_
       refine ⟨⟨q.i+1,h4⟩,[0,1,2],by show (((r+s.length)/ 128))-(q.i+1)<(((r+s.length)/ 128))-q.i;omega,?_⟩
       repeat ((conv=>whnf);refine za ?_)
       conv=>whnf
       refine zh (congrArg (fun x=>SV.agg [SV.int m,SV.arr64 8 x,SV.arr64 80 k,SV.sl 2 0 0 [] (r+s.length) ((r+s.length)+t1.length),SV.u64 (all+UInt64.ofNat s.length)]) (show za1 m k (xw m k H (l.take r++s) q.i) (List.take (bk m) (List.drop (off (yc [] (slO ((r+s.length)+t1.length) (128*(q.i:Int)).toNat) ty5.sz)) ((l.take r++s)++t1)))=xw m k H (l.take r++s) (q.i+1) by rw [zoy m k H (l.take r++s) q.i hb,hof,hb,List.drop_append_of_le_length (by omega),List.take_append_of_le_length (by rw [List.length_drop];omega)])) ?_
       repeat ((conv=>whnf);refine za ?_)
       exact trivial
      ·have e4:q.i=(r+s.length)/ 128:=by omega
       have hpe:(off (yc [] (slO ((r+s.length)+t1.length) (128*(q.i:Int)).toNat) ty5.sz))+((r+s.length)-(128*(q.i:Int)).toNat)≤((l.take r++s)++t1).length:=by
         rw [zv,hLl]
         show 0+slO _ _*1+_≤_
         by_cases e:((r+s.length)+t1.length)=(128*(q.i:Int)).toNat
         ·unfold slO;split<;>omega
         ·rw [xa e];omega
       have hraw:List.take ((r+s.length)-(128*(q.i:Int)).toNat) (List.drop (off (yc [] (slO ((r+s.length)+t1.length) (128*(q.i:Int)).toNat) ty5.sz)) ((l.take r++s)++t1))=wrR m (l.take r) s:=by
         rw [hRr,show (128*(q.i:Int)).toNat=128*((r+s.length)/ 128) by omega]
         by_cases e:(r+s.length)-128*((r+s.length)/ 128)=0
         ·rw [e,List.take_zero]
          exact (List.drop_eq_nil_of_le (by omega)).symm
         ·rw [zv,xa (show ((r+s.length)+t1.length)≠128*((r+s.length)/ 128) by omega)]
          show List.take _ (List.drop (0+128*((r+s.length)/ 128)*1) _)=_
          rw [Nat.zero_add,Nat.mul_one,List.drop_append_of_le_length (by omega),List.take_left' (by rw [List.length_drop]<;>omega)]
       have hH2:xw m k H (l.take r++s) q.i=wrH m k H (l.take r) s:=by rw [hW,e4]
       rw [hH2]
       clear htl
       have hwl:=zaf (n:=m) (k:=k) hH (l.take r) s
       by_cases hz:(wrR m (l.take r) s).length=0
       ·have h:=ht (decide_eq_true hz)
        refine wk ?_
        exact ze (hp':= [.mk t0 [.int m,.arr64 8 (wrH m k H (l.take r) s),.arr64 80 k,.nilsl,.u64 (all+UInt64.ofNat s.length)],.dead]) [0,1] h
       ·have h:=hf (decide_eq_false hz)
        refine wk ?_
        rw [hraw]
        refine wk ?_
        refine yq fun t2=>?_
        have h:=za4 h t2
        refine wk ?_
        conv=>whnf
        exact ze (hp':= [.mk t0 [.int m,.arr64 8 (wrH m k H (l.take r) s),.arr64 80 k,.sl 2 0 0 [] (wrR m (l.take r) s).length ((wrR m (l.take r) s).length+t2.length),.u64 (all+UInt64.ofNat s.length)],.dead,.mk 5 [.arr8 ((wrR m (l.take r) s).length+t2.length) (wrR m (l.take r) s++t2)]]) [0,1,3] h
   ·exact h.elim
end Go.Sym.A

namespace Go.Sym.A
open Go Go.Proofs.Try Go.Sym.Lp Go.Sym.Cha Go.Sym.Sha
set_option maxRecDepth 100000
attribute [local irreducible] xw KC HB za1 wrH wrR bk
def z6l:List (Nat×List PStep):= []
def z6e:List (Nat×List PStep):= []
def z7w:List (Nat×List PStep):= []
theorem zed (v:UInt8):List.take 1 (List.drop (off []) ((List.replicate 1 0).set (off [(0,ty5.sz)]) v))= [v]:=rfl
theorem zbs {g:Nat→UInt8} {n:Nat} {x:UInt8} (hx:x=g n) (tl t2:List UInt8):List.take n ((List.range n).map g++tl)++ [x]++t2=(List.range (n+1)).map g++t2:=by
  rw [List.take_left' (z4 _ _),List.range_succ,List.map_append,hx];rfl
theorem zbx (W:List UInt64) (S a j:Nat) (hj:j<S) {k:Nat} (hk:k=a) {I:Int} (hI:I=(S:Int)-1-(j:Int)):(W.getD (off [(k,x4.sz)]) 0>>>UInt64.ofNat (8*I).toNat).toUInt8=Go.Sym.Sha.outG W S (S*a+j):=by
  subst hk hI
  unfold Go.Sym.Sha.outG Go.Sym.Sha.g64
  rw [Nat.mul_add_div (by omega),Nat.div_eq_of_lt hj,Nat.add_zero,Nat.mul_add_mod,Nat.mod_eq_of_lt hj,show (8*((S:Int)-1-(j:Int))).toNat=8*(S-1-j) by omega]
  congr 3
structure Ow (S:Nat) where
  a:Nat
  tl:List UInt8
  ha:1≤a∧a≤8
structure Iw (S:Nat) where
  j:Nat
  tl:List UInt8
  hj:j≤S
def zs1:Spec:=fun args hp K=>match args,hp with
  | [.ptr 0 0 0 []],[.mk t0 [.int m,.arr64 8 H,.arr64 80 k,.nilsl,.u64 all]]=>Pre (H.length=8∧k.length=80∧t0=198) (K (.ptr 1 0 0 []) [.mk t0 [.int m,.arr64 8 H,.arr64 80 k,.nilsl,.u64 all],.mk t0 [.int m,.arr64 8 H,.arr64 80 k,.nilsl,.u64 all]])
  | [.ptr 0 0 0 []],[.mk t0 [.int m,.arr64 8 H,.arr64 80 k,.sl 1 0 0 [] r c,.u64 all],.mk t [.arr8 L l]]=>Pre (H.length=8∧k.length=80∧t0=198∧0<r∧r≤c∧r≤128∧r≤l.length)
      (zb4 fun tl:List UInt8=>K (.ptr 2 0 0 []) [.mk t0 [.int m,.arr64 8 H,.arr64 80 k,.sl 1 0 0 [] r c,.u64 all],.mk t [.arr8 L l],.mk t0 [.int m,.arr64 8 H,.arr64 80 k,.sl 3 0 0 [] r (r+tl.length),.u64 all],.mk 5 [.arr8 (r+tl.length) (l.take r++tl)]])
  |_,_=>False
set_option maxHeartbeats 4000000 in
theorem zux:zp prog 134 zs1:=by
  refine zo x0 zk rfl func134 rfl call134 (D:=z6l) ?_ ?_
  ·intro args hp K h
   unfold zs1 at h
   split at h
   ·exact Nat.le_of_ble_eq_true rfl
   ·exact Nat.le_of_ble_eq_true rfl
   ·exact h.elim
  ·intro args hp K h
   unfold zs1 at h
   split at h
   ·rename_i t0 m H k all
    obtain ⟨⟨hH,hk,hT⟩,h⟩:=zl h
    subst hT
    refine wk ?_
    exact ze (hp':= [.mk 198 [.int m,.arr64 8 H,.arr64 80 k,.nilsl,.u64 all],.mk 198 [.int m,.arr64 8 H,.arr64 80 k,.nilsl,.u64 all]]) [0,1] h
   ·rename_i t0 m H k r c all t L l
    obtain ⟨⟨hH,hk,hT,hr0,hr,hr2,hl⟩,h⟩:=zl h
    subst hT
    have htl:(List.take r (List.drop (off []) l)).length=r:=by rw [List.length_take,List.length_drop];show min r (l.length-0)=r;omega
    refine wk ?_
    refine yq fun tl=>?_
    have h:=za4 h tl
    refine wk ?_
    rw [htl]
    conv=>whnf
    exact ze (hp':= [.mk 198 [.int m,.arr64 8 H,.arr64 80 k,.sl 1 0 0 [] r c,.u64 all],.mk t [.arr8 L l],.mk 198 [.int m,.arr64 8 H,.arr64 80 k,.sl 3 0 0 [] r (r+tl.length),.u64 all],.mk 5 [.arr8 (r+tl.length) (List.take r l++tl)]]) [0,1,2,3] h
   ·exact h.elim
def zr4:Spec:=fun args hp K=>match args,hp with
  | [.ptr 0 0 0 []],[.mk t0 [.int m,.arr64 8 H,.arr64 80 k,.nilsl,.u64 all]]=>Pre (H.length=8∧k.length=80∧t0=198∧(m=256∨m=384)) (K (.str (zdj m k H [] all)) [.mk t0 [.int m,.arr64 8 H,.arr64 80 k,.nilsl,.u64 all]])
  | [.ptr 0 0 0 []],[.mk t0 [.int m,.arr64 8 H,.arr64 80 k,.sl 1 0 0 [] r c,.u64 all],.mk t [.arr8 L l]]=>Pre (H.length=8∧k.length=80∧t0=198∧(m=256∨m=384)∧0<r∧r<bk m∧r≤c∧r≤l.length) (K (.str (zdj m k H (l.take r) all)) [.mk t0 [.int m,.arr64 8 H,.arr64 80 k,.sl 1 0 0 [] r c,.u64 all],.mk t [.arr8 L l]])
  |_,_=>False
set_option maxHeartbeats 8000000 in
theorem zus:zp prog 135 zr4:=by
  refine zo x0 (zd zux (zd zrs (zd zg2 zk))) rfl func135 rfl call135 (D:=z6e) ?_ ?_
  ·intro args hp K h
   unfold zr4 at h
   split at h
   ·exact Nat.le_of_ble_eq_true rfl
   ·exact Nat.le_of_ble_eq_true rfl
   ·exact h.elim
  ·intro args hp K h
   unfold zr4 at h
   split at h
   ·rename_i t0 m H k all
    obtain ⟨⟨hH,hk,hT,hm⟩,h⟩:=zl h
    subst hT
    have hpf:H.length=8∧k.length=80∧198=198:=⟨hH,hk,rfl⟩
    rcases hm with hm|hm
    ·have hb:bk m=64:=by unfold bk;rw [if_pos hm]
     refine wk ?_
     rw [hb]
     have hq1:(8:Int)≠0∧yh (((64:Nat):Int).tdiv 8):=⟨by decide,by unfold yh;decide⟩
     have hq2:(16:Int)≠0∧yh (((64:Nat):Int).tdiv 16):=⟨by decide,by unfold yh;decide⟩
     have hd8:((64:Nat):Int).tdiv 8=8:=rfl
     have hd16:((64:Nat):Int).tdiv 16=4:=rfl
     have hmd:(2*((64:Nat):Int)-1-((64:Nat):Int).tdiv 8-0).tmod ((64:Nat):Int)=(((119-0)%64:Nat):Int):=by rw [hd8,Int.tmod_eq_emod_of_nonneg (by omega)];omega
     have hft:yh (1+(2*((64:Nat):Int)-1-((64:Nat):Int).tdiv 8-0).tmod ((64:Nat):Int)):=by rw [hmd];unfold yh;omega
     have hPl:1+(2*((64:Nat):Int)-1-((64:Nat):Int).tdiv 8-0).tmod ((64:Nat):Int)+((64:Nat):Int).tdiv 8=((zbf m 0:Nat):Int):=by rw [hmd,hd8];unfold zbf;rw [hb];omega
     have hPb:8+1≤zbf m 0∧zbf m 0≤200:=by unfold zbf;rw [hb];omega
     obtain ⟨Q,hQ⟩: ∃Q,Q=zbf m 0:=⟨_,rfl⟩
     rw [←hQ] at hPl hPb
     have hft2:yh (1+(2*((64:Nat):Int)-1-((64:Nat):Int).tdiv 8-0).tmod ((64:Nat):Int)+((64:Nat):Int).tdiv 8):=by rw [hPl];unfold yh;omega
     refine wk ?_
     rw [hPl]
     refine wk ?_
     have hPp:zk6 m 0 all=zb3 Q all 8:=by unfold zk6;rw [←hQ]
     have hNone:=zf0 (n:=m) (R:= []) (by rw [List.length_nil,hb];omega) all
     rw [List.length_nil,hPp] at hNone
     refine zt (Ix (8)) (fun q=>⟨[(0,.ptr 0 0 0 []),(3,.ptr 1 0 0 []),(4,.int 64),(5,.sl 2 0 0 [] Q Q),(39,.int q.i)],[.mk 198 [.int m,.arr64 8 H,.arr64 80 k,.nilsl,.u64 all],.mk 198 [.int m,.arr64 8 H,.arr64 80 k,.nilsl,.u64 all],.mk 5 [.arr8 Q (zb3 Q all q.i)]]⟩) (fun q=>(8)-q.i) ⟨0,Nat.zero_le _⟩ [0,1,2] ?_ ?_
     ·repeat ((conv=>whnf);refine za ?_)
      exact trivial
     ·intro q
      have hi:=q.hi
      have hpl:=zdr Q all q.i
      have hof:off (yc [] ((Q:Int)-1-(q.i:Int)).toNat ty5.sz)=Q-1-q.i:=by rw [zv];show 0+((Q:Int)-1-(q.i:Int)).toNat*1=_;omega
      have hk8:(8*(q.i:Int)).toNat=8*q.i:=by omega
      by_cases h4:q.i<8
      ·refine wk ?_
       refine ⟨⟨q.i+1,h4⟩,[0,1,2],by show (8)-(q.i+1)<(8)-q.i;omega,?_⟩
       repeat ((conv=>whnf);refine za ?_)
       conv=>whnf
       refine zh (congrArg (fun x=>SV.agg [SV.arr8 Q x]) (show _=zb3 Q all (q.i+1) by simp only [zb3];rw [hof,hk8];rfl)) ?_
       repeat ((conv=>whnf);refine za ?_)
       exact trivial
      ·have e4:q.i=8:=by omega
       rw [e4] at hpl
       rw [e4]
       clear hi hof hk8 h4 e4 q
       obtain ⟨P,hP⟩: ∃P,P=zb3 Q all 8:=⟨_,rfl⟩
       rw [←hP] at hpl hNone hPp
       rw [←hP]
       have hPt:List.take Q (List.drop (off []) P)=P:=List.take_of_length_le (Nat.le_of_eq hpl)
       have hpo:off []+Q≤P.length:=by rw [hpl];show 0+Q≤Q;omega
       skip
       refine wk ?_
       rw [hPt]
       repeat ((conv=>whnf);first|refine zn ?_|refine zf ?_|refine zg ?_|refine za ?_|refine zq (by first|exact decide_eq_true hNone) ?_|refine zi (by first|exact decide_eq_true hNone) ?_|refine zj (by first|exact decide_eq_true hNone) ?_)
       conv=>whnf
       have hWl:=zaf (n:=m) (k:=k) hH [] P
       generalize hWd:wrH m k H [] P=W at*
       refine zt (Option (Ow 4)) (fun q=>match q with
         |none=>⟨[(0,.ptr 0 0 0 []),(3,.ptr 1 0 0 []),(7,.nilsl),(8,.int 4),(68,.arr64 8 W),(69,.int 0)],[.mk 198 [.int m,.arr64 8 H,.arr64 80 k,.nilsl,.u64 all],.mk 198 [.int m,.arr64 8 W,.arr64 80 k,.nilsl,.u64 (all+UInt64.ofNat P.length)]]⟩
         |some s=>⟨[(0,.ptr 0 0 0 []),(3,.ptr 1 0 0 []),(7,.sl 2 0 0 [] (4*s.a) (4*s.a+s.tl.length)),(8,.int 4),(68,.arr64 8 W),(69,.int s.a)],[.mk 198 [.int m,.arr64 8 H,.arr64 80 k,.nilsl,.u64 all],.mk 198 [.int m,.arr64 8 W,.arr64 80 k,.nilsl,.u64 (all+UInt64.ofNat P.length)],.mk 5 [.arr8 (4*s.a+s.tl.length) ((List.range (4*s.a)).map (outG W 4)++s.tl)]]⟩)
         (fun q=>match q with|none=>9|some s=>8-s.a) none [0,1] ?_ ?_
       ·repeat ((conv=>whnf);refine za ?_)
        exact trivial
       ·intro q
        cases q with
        |none=>
         refine wk ?_
         refine zt (Option (Iw 4)) (fun v=>match v with
           |none=>⟨[(0,.ptr 0 0 0 []),(3,.ptr 1 0 0 []),(7,.nilsl),(8,.int 4),(10,.u64 (W.getD (off [(Int.toNat 0,x4.sz)]) 0)),(11,.int (4-1)),(68,.arr64 8 W),(69,.int 0)],[.mk 198 [.int m,.arr64 8 H,.arr64 80 k,.nilsl,.u64 all],.mk 198 [.int m,.arr64 8 W,.arr64 80 k,.nilsl,.u64 (all+UInt64.ofNat P.length)]]⟩
           |some v=>⟨[(0,.ptr 0 0 0 []),(3,.ptr 1 0 0 []),(7,.sl 2 0 0 [] v.j (v.j+v.tl.length)),(8,.int 4),(10,.u64 (W.getD (off [(Int.toNat 0,x4.sz)]) 0)),(11,.int ((4:Int)-1-v.j)),(68,.arr64 8 W),(69,.int 0)],[.mk 198 [.int m,.arr64 8 H,.arr64 80 k,.nilsl,.u64 all],.mk 198 [.int m,.arr64 8 W,.arr64 80 k,.nilsl,.u64 (all+UInt64.ofNat P.length)],.mk 5 [.arr8 (v.j+v.tl.length) ((List.range v.j).map (outG W 4)++v.tl)]]⟩)
           (fun v=>match v with|none=>4+1|some v=>4-v.j) none [0,1] ?_ ?_
         ·repeat ((conv=>whnf);refine za ?_)
          exact trivial
         ·intro v
          cases v with
          |none=>
           refine wk ?_
           refine yq fun t1=>?_
           refine wk ?_
           rw [zed]
           refine ⟨some ⟨1,t1,by omega⟩,[0,1,3],by show 4-1<4+1;omega,?_⟩
           repeat ((conv=>whnf);refine za ?_)
           exact trivial
          |some v=>
           have hj':=v.hj
           by_cases hj:v.j<4
           ·refine wk ?_
            rw [zed]
            refine zq ⟨by omega,by rw [List.length_append,z4],by show _+1≤_;omega⟩ ?_
            refine wk ?_
            refine yq fun t2=>?_
            refine wk ?_
            refine ⟨some ⟨v.j+1,t2,by omega⟩,[0,1,4],by show 4-(v.j+1)<4-v.j;omega,?_⟩
            repeat ((conv=>whnf);refine za ?_)
            conv=>whnf
            refine zh (congrArg (fun x=>SV.agg [SV.arr8 ((v.j+1)+t2.length) x]) (zbs (g:=outG W 4) (n:=v.j) (by have:=zbx W 4 0 v.j hj (k:=Int.toNat 0) rfl (I:=4-1-(v.j:Int)) rfl;rwa [Nat.mul_zero,Nat.zero_add] at this) _ _)) ?_
            repeat ((conv=>whnf);refine za ?_)
            conv=>whnf
            refine zh (congrArg SV.int (show (4:Int)-1-(v.j:Int)-1=4-1-((v.j+1:Nat):Int) by omega)) ?_
            repeat ((conv=>whnf);refine za ?_)
            exact trivial
           ·have ej:v.j=4:=by omega
            refine wk ?_
            refine ⟨some ⟨0+1,v.tl,by omega⟩,[0,1,2],by show 8-(0+1)<9;omega,?_⟩
            rw [ej]
            repeat ((conv=>whnf);refine za ?_)
            exact trivial
        |some s=>
         have ha:=s.ha
         by_cases h8:s.a<8
         ·refine wk ?_
          refine zt (Iw 4) (fun v=>⟨[(0,.ptr 0 0 0 []),(3,.ptr 1 0 0 []),(7,.sl 2 0 0 [] (4*s.a+v.j) ((4*s.a+v.j)+v.tl.length)),(8,.int 4),(10,.u64 (W.getD (off [((s.a:Int).toNat,x4.sz)]) 0)),(11,.int ((4:Int)-1-v.j)),(68,.arr64 8 W),(69,.int (s.a:Int))],[.mk 198 [.int m,.arr64 8 H,.arr64 80 k,.nilsl,.u64 all],.mk 198 [.int m,.arr64 8 W,.arr64 80 k,.nilsl,.u64 (all+UInt64.ofNat P.length)],.mk 5 [.arr8 ((4*s.a+v.j)+v.tl.length) ((List.range (4*s.a+v.j)).map (outG W 4)++v.tl)]]⟩) (fun v=>4-v.j) ⟨0,s.tl,Nat.zero_le _⟩ [0,1,2] ?_ ?_
          ·repeat ((conv=>whnf);refine za ?_)
           exact trivial
          ·intro v
           have hj':=v.hj
           by_cases hj:v.j<4
           ·refine wk ?_
            rw [zed]
            refine zq ⟨by omega,by rw [List.length_append,z4],by show _+1≤_;omega⟩ ?_
            refine wk ?_
            refine yq fun t2=>?_
            refine wk ?_
            refine ⟨⟨v.j+1,t2,by omega⟩,[0,1,4],by show 4-(v.j+1)<4-v.j;omega,?_⟩
            repeat ((conv=>whnf);refine za ?_)
            conv=>whnf
            refine zh (congrArg (fun x=>SV.agg [SV.arr8 ((4*s.a+(v.j+1))+t2.length) x]) (zbs (g:=outG W 4) (n:=(4*s.a+v.j)) (zbx W 4 s.a v.j hj (Int.toNat_natCast _) rfl) _ _)) ?_
            repeat ((conv=>whnf);refine za ?_)
            conv=>whnf
            refine zh (congrArg SV.int (show (4:Int)-1-(v.j:Int)-1=4-1-((v.j+1:Nat):Int) by omega)) ?_
            repeat ((conv=>whnf);refine za ?_)
            exact trivial
           ·have ej:v.j=4:=by omega
            refine wk ?_
            refine ⟨some ⟨s.a+1,v.tl,by omega⟩,[0,1,2],by show 8-(s.a+1)<8-s.a;omega,?_⟩
            rw [ej]
            repeat ((conv=>whnf);refine za ?_)
            exact trivial
         ·have e8:s.a=8:=by omega
          have h8m:(8:Int)≠0∧yh (m.tdiv 8):=by rw [hm];exact ⟨by decide,by unfold yh;decide⟩
          have hd8m:m.tdiv 8=32:=by rw [hm];rfl
          refine wk ?_
          rw [e8,hd8m]
          have hOl:=ze9 W 4
          have hO:(List.range (4*8)).map (outG W 4)=zhh W 4:=by unfold zhh;rfl
          have hpo:off []+Int.toNat 32≤((List.range (4*8)).map (outG W 4)++s.tl).length:=by rw [List.length_append,z4];show 0+32≤_;omega
          have hsm:zdj m k H [] all=List.take (Int.toNat 32) (List.drop (off []) ((List.range (4*8)).map (outG W 4)++s.tl)):=by
            unfold zdj
            rw [List.length_nil,hPp,hWd,hb,hO,show (m/ 8).toNat=32 by rw [hm];rfl]
            show _=List.take 32 (zhh W 4++s.tl)
            rw [List.take_append_of_le_length (by rw [hOl];decide)]
          rw [hsm] at h
          refine wk ?_
          exact ze (hp':= [.mk 198 [.int m,.arr64 8 H,.arr64 80 k,.nilsl,.u64 all]]) [0] h
    ·have hb:bk m=128:=by unfold bk;rw [if_neg (by omega)]
     refine wk ?_
     rw [hb]
     have hq1:(8:Int)≠0∧yh (((128:Nat):Int).tdiv 8):=⟨by decide,by unfold yh;decide⟩
     have hq2:(16:Int)≠0∧yh (((128:Nat):Int).tdiv 16):=⟨by decide,by unfold yh;decide⟩
     have hd8:((128:Nat):Int).tdiv 8=16:=rfl
     have hd16:((128:Nat):Int).tdiv 16=8:=rfl
     have hmd:(2*((128:Nat):Int)-1-((128:Nat):Int).tdiv 8-0).tmod ((128:Nat):Int)=(((239-0)%128:Nat):Int):=by rw [hd8,Int.tmod_eq_emod_of_nonneg (by omega)];omega
     have hft:yh (1+(2*((128:Nat):Int)-1-((128:Nat):Int).tdiv 8-0).tmod ((128:Nat):Int)):=by rw [hmd];unfold yh;omega
     have hPl:1+(2*((128:Nat):Int)-1-((128:Nat):Int).tdiv 8-0).tmod ((128:Nat):Int)+((128:Nat):Int).tdiv 8=((zbf m 0:Nat):Int):=by rw [hmd,hd8];unfold zbf;rw [hb];omega
     have hPb:16+1≤zbf m 0∧zbf m 0≤200:=by unfold zbf;rw [hb];omega
     obtain ⟨Q,hQ⟩: ∃Q,Q=zbf m 0:=⟨_,rfl⟩
     rw [←hQ] at hPl hPb
     have hft2:yh (1+(2*((128:Nat):Int)-1-((128:Nat):Int).tdiv 8-0).tmod ((128:Nat):Int)+((128:Nat):Int).tdiv 8):=by rw [hPl];unfold yh;omega
     refine wk ?_
     rw [hPl]
     refine wk ?_
     have hPp:zk6 m 0 all=zb3 Q all 8:=by unfold zk6;rw [←hQ]
     have hNone:=zf0 (n:=m) (R:= []) (by rw [List.length_nil,hb];omega) all
     rw [List.length_nil,hPp] at hNone
     refine zt (Ix (8)) (fun q=>⟨[(0,.ptr 0 0 0 []),(3,.ptr 1 0 0 []),(4,.int 128),(5,.sl 2 0 0 [] Q Q),(39,.int q.i)],[.mk 198 [.int m,.arr64 8 H,.arr64 80 k,.nilsl,.u64 all],.mk 198 [.int m,.arr64 8 H,.arr64 80 k,.nilsl,.u64 all],.mk 5 [.arr8 Q (zb3 Q all q.i)]]⟩) (fun q=>(8)-q.i) ⟨0,Nat.zero_le _⟩ [0,1,2] ?_ ?_
     ·repeat ((conv=>whnf);refine za ?_)
      exact trivial
     ·intro q
      have hi:=q.hi
      have hpl:=zdr Q all q.i
      have hof:off (yc [] ((Q:Int)-1-(q.i:Int)).toNat ty5.sz)=Q-1-q.i:=by rw [zv];show 0+((Q:Int)-1-(q.i:Int)).toNat*1=_;omega
      have hk8:(8*(q.i:Int)).toNat=8*q.i:=by omega
      by_cases h4:q.i<8
      ·refine wk ?_
       refine ⟨⟨q.i+1,h4⟩,[0,1,2],by show (8)-(q.i+1)<(8)-q.i;omega,?_⟩
       repeat ((conv=>whnf);refine za ?_)
       conv=>whnf
       refine zh (congrArg (fun x=>SV.agg [SV.arr8 Q x]) (show _=zb3 Q all (q.i+1) by simp only [zb3];rw [hof,hk8];rfl)) ?_
       repeat ((conv=>whnf);refine za ?_)
       exact trivial
      ·have e4:q.i=8:=by omega
       rw [e4] at hpl
       rw [e4]
       clear hi hof hk8 h4 e4 q
       obtain ⟨P,hP⟩: ∃P,P=zb3 Q all 8:=⟨_,rfl⟩
       rw [←hP] at hpl hNone hPp
       rw [←hP]
       have hPt:List.take Q (List.drop (off []) P)=P:=List.take_of_length_le (Nat.le_of_eq hpl)
       have hpo:off []+Q≤P.length:=by rw [hpl];show 0+Q≤Q;omega
       skip
       refine wk ?_
       rw [hPt]
       repeat ((conv=>whnf);first|refine zn ?_|refine zf ?_|refine zg ?_|refine za ?_|refine zq (by first|exact decide_eq_true hNone) ?_|refine zi (by first|exact decide_eq_true hNone) ?_|refine zj (by first|exact decide_eq_true hNone) ?_)
       conv=>whnf
       have hWl:=zaf (n:=m) (k:=k) hH [] P
       generalize hWd:wrH m k H [] P=W at*
       refine zt (Option (Ow 8)) (fun q=>match q with
         |none=>⟨[(0,.ptr 0 0 0 []),(3,.ptr 1 0 0 []),(7,.nilsl),(8,.int 8),(68,.arr64 8 W),(69,.int 0)],[.mk 198 [.int m,.arr64 8 H,.arr64 80 k,.nilsl,.u64 all],.mk 198 [.int m,.arr64 8 W,.arr64 80 k,.nilsl,.u64 (all+UInt64.ofNat P.length)]]⟩
         |some s=>⟨[(0,.ptr 0 0 0 []),(3,.ptr 1 0 0 []),(7,.sl 2 0 0 [] (8*s.a) (8*s.a+s.tl.length)),(8,.int 8),(68,.arr64 8 W),(69,.int s.a)],[.mk 198 [.int m,.arr64 8 H,.arr64 80 k,.nilsl,.u64 all],.mk 198 [.int m,.arr64 8 W,.arr64 80 k,.nilsl,.u64 (all+UInt64.ofNat P.length)],.mk 5 [.arr8 (8*s.a+s.tl.length) ((List.range (8*s.a)).map (outG W 8)++s.tl)]]⟩)
         (fun q=>match q with|none=>9|some s=>8-s.a) none [0,1] ?_ ?_
       ·repeat ((conv=>whnf);refine za ?_)
        exact trivial
       ·intro q
        cases q with
        |none=>
         refine wk ?_
         refine zt (Option (Iw 8)) (fun v=>match v with
           |none=>⟨[(0,.ptr 0 0 0 []),(3,.ptr 1 0 0 []),(7,.nilsl),(8,.int 8),(10,.u64 (W.getD (off [(Int.toNat 0,x4.sz)]) 0)),(11,.int (8-1)),(68,.arr64 8 W),(69,.int 0)],[.mk 198 [.int m,.arr64 8 H,.arr64 80 k,.nilsl,.u64 all],.mk 198 [.int m,.arr64 8 W,.arr64 80 k,.nilsl,.u64 (all+UInt64.ofNat P.length)]]⟩
           |some v=>⟨[(0,.ptr 0 0 0 []),(3,.ptr 1 0 0 []),(7,.sl 2 0 0 [] v.j (v.j+v.tl.length)),(8,.int 8),(10,.u64 (W.getD (off [(Int.toNat 0,x4.sz)]) 0)),(11,.int ((8:Int)-1-v.j)),(68,.arr64 8 W),(69,.int 0)],[.mk 198 [.int m,.arr64 8 H,.arr64 80 k,.nilsl,.u64 all],.mk 198 [.int m,.arr64 8 W,.arr64 80 k,.nilsl,.u64 (all+UInt64.ofNat P.length)],.mk 5 [.arr8 (v.j+v.tl.length) ((List.range v.j).map (outG W 8)++v.tl)]]⟩)
           (fun v=>match v with|none=>8+1|some v=>8-v.j) none [0,1] ?_ ?_
         ·repeat ((conv=>whnf);refine za ?_)
          exact trivial
         ·intro v
          cases v with
          |none=>
           refine wk ?_
           refine yq fun t1=>?_
           refine wk ?_
           rw [zed]
           refine ⟨some ⟨1,t1,by omega⟩,[0,1,3],by show 8-1<8+1;omega,?_⟩
           repeat ((conv=>whnf);refine za ?_)
           exact trivial
          |some v=>
           have hj':=v.hj
           by_cases hj:v.j<8
           ·refine wk ?_
            rw [zed]
            refine zq ⟨by omega,by rw [List.length_append,z4],by show _+1≤_;omega⟩ ?_
            refine wk ?_
            refine yq fun t2=>?_
            refine wk ?_
            refine ⟨some ⟨v.j+1,t2,by omega⟩,[0,1,4],by show 8-(v.j+1)<8-v.j;omega,?_⟩
            repeat ((conv=>whnf);refine za ?_)
            conv=>whnf
            refine zh (congrArg (fun x=>SV.agg [SV.arr8 ((v.j+1)+t2.length) x]) (zbs (g:=outG W 8) (n:=v.j) (by have:=zbx W 8 0 v.j hj (k:=Int.toNat 0) rfl (I:=8-1-(v.j:Int)) rfl;rwa [Nat.mul_zero,Nat.zero_add] at this) _ _)) ?_
            repeat ((conv=>whnf);refine za ?_)
            conv=>whnf
            refine zh (congrArg SV.int (show (8:Int)-1-(v.j:Int)-1=8-1-((v.j+1:Nat):Int) by omega)) ?_
            repeat ((conv=>whnf);refine za ?_)
            exact trivial
           ·have ej:v.j=8:=by omega
            refine wk ?_
            refine ⟨some ⟨0+1,v.tl,by omega⟩,[0,1,2],by show 8-(0+1)<9;omega,?_⟩
            rw [ej]
            repeat ((conv=>whnf);refine za ?_)
            exact trivial
        |some s=>
         have ha:=s.ha
         by_cases h8:s.a<8
         ·refine wk ?_
          refine zt (Iw 8) (fun v=>⟨[(0,.ptr 0 0 0 []),(3,.ptr 1 0 0 []),(7,.sl 2 0 0 [] (8*s.a+v.j) ((8*s.a+v.j)+v.tl.length)),(8,.int 8),(10,.u64 (W.getD (off [((s.a:Int).toNat,x4.sz)]) 0)),(11,.int ((8:Int)-1-v.j)),(68,.arr64 8 W),(69,.int (s.a:Int))],[.mk 198 [.int m,.arr64 8 H,.arr64 80 k,.nilsl,.u64 all],.mk 198 [.int m,.arr64 8 W,.arr64 80 k,.nilsl,.u64 (all+UInt64.ofNat P.length)],.mk 5 [.arr8 ((8*s.a+v.j)+v.tl.length) ((List.range (8*s.a+v.j)).map (outG W 8)++v.tl)]]⟩) (fun v=>8-v.j) ⟨0,s.tl,Nat.zero_le _⟩ [0,1,2] ?_ ?_
          ·repeat ((conv=>whnf);refine za ?_)
           exact trivial
          ·intro v
           have hj':=v.hj
           by_cases hj:v.j<8
           ·refine wk ?_
            rw [zed]
            refine zq ⟨by omega,by rw [List.length_append,z4],by show _+1≤_;omega⟩ ?_
            refine wk ?_
            refine yq fun t2=>?_
            refine wk ?_
            refine ⟨⟨v.j+1,t2,by omega⟩,[0,1,4],by show 8-(v.j+1)<8-v.j;omega,?_⟩
            repeat ((conv=>whnf);refine za ?_)
            conv=>whnf
            refine zh (congrArg (fun x=>SV.agg [SV.arr8 ((8*s.a+(v.j+1))+t2.length) x]) (zbs (g:=outG W 8) (n:=(8*s.a+v.j)) (zbx W 8 s.a v.j hj (Int.toNat_natCast _) rfl) _ _)) ?_
            repeat ((conv=>whnf);refine za ?_)
            conv=>whnf
            refine zh (congrArg SV.int (show (8:Int)-1-(v.j:Int)-1=8-1-((v.j+1:Nat):Int) by omega)) ?_
            repeat ((conv=>whnf);refine za ?_)
            exact trivial
           ·have ej:v.j=8:=by omega
            refine wk ?_
            refine ⟨some ⟨s.a+1,v.tl,by omega⟩,[0,1,2],by show 8-(s.a+1)<8-s.a;omega,?_⟩
            rw [ej]
            repeat ((conv=>whnf);refine za ?_)
            exact trivial
         ·have e8:s.a=8:=by omega
          have h8m:(8:Int)≠0∧yh (m.tdiv 8):=by rw [hm];exact ⟨by decide,by unfold yh;decide⟩
          have hd8m:m.tdiv 8=48:=by rw [hm];rfl
          refine wk ?_
          rw [e8,hd8m]
          have hOl:=ze9 W 8
          have hO:(List.range (8*8)).map (outG W 8)=zhh W 8:=by unfold zhh;rfl
          have hpo:off []+Int.toNat 48≤((List.range (8*8)).map (outG W 8)++s.tl).length:=by rw [List.length_append,z4];show 0+48≤_;omega
          have hsm:zdj m k H [] all=List.take (Int.toNat 48) (List.drop (off []) ((List.range (8*8)).map (outG W 8)++s.tl)):=by
            unfold zdj
            rw [List.length_nil,hPp,hWd,hb,hO,show (m/ 8).toNat=48 by rw [hm];rfl]
            show _=List.take 48 (zhh W 8++s.tl)
            rw [List.take_append_of_le_length (by rw [hOl];decide)]
          rw [hsm] at h
          refine wk ?_
          exact ze (hp':= [.mk 198 [.int m,.arr64 8 H,.arr64 80 k,.nilsl,.u64 all]]) [0] h
   ·rename_i t0 m H k r c all t L l
    obtain ⟨⟨hH,hk,hT,hm,hr0,hrb,hr,hl⟩,h⟩:=zl h
    subst hT
    have hb:bk m=64∨bk m=128:=by unfold bk;split<;>simp
    have hpf:H.length=8∧k.length=80∧198=198∧0<r∧r≤c∧r≤128∧r≤l.length:=⟨hH,hk,rfl,hr0,hr,by omega,hl⟩
    clear hb
    rcases hm with hm|hm
    ·have hb:bk m=64:=by unfold bk;rw [if_pos hm]
     refine wk ?_
     refine yq fun tl=>?_
     refine wk ?_
     rw [hb]
     have hq1:(8:Int)≠0∧yh (((64:Nat):Int).tdiv 8):=⟨by decide,by unfold yh;decide⟩
     have hq2:(16:Int)≠0∧yh (((64:Nat):Int).tdiv 16):=⟨by decide,by unfold yh;decide⟩
     have hd8:((64:Nat):Int).tdiv 8=8:=rfl
     have hd16:((64:Nat):Int).tdiv 16=4:=rfl
     have hmd:(2*((64:Nat):Int)-1-((64:Nat):Int).tdiv 8-(r:Int)).tmod ((64:Nat):Int)=(((119-r)%64:Nat):Int):=by rw [hd8,Int.tmod_eq_emod_of_nonneg (by omega)];omega
     have hft:yh (1+(2*((64:Nat):Int)-1-((64:Nat):Int).tdiv 8-(r:Int)).tmod ((64:Nat):Int)):=by rw [hmd];unfold yh;omega
     have hPl:1+(2*((64:Nat):Int)-1-((64:Nat):Int).tdiv 8-(r:Int)).tmod ((64:Nat):Int)+((64:Nat):Int).tdiv 8=((zbf m r:Nat):Int):=by rw [hmd,hd8];unfold zbf;rw [hb];omega
     have hPb:8+1≤zbf m r∧zbf m r≤200:=by unfold zbf;rw [hb];omega
     obtain ⟨Q,hQ⟩: ∃Q,Q=zbf m r:=⟨_,rfl⟩
     rw [←hQ] at hPl hPb
     have hft2:yh (1+(2*((64:Nat):Int)-1-((64:Nat):Int).tdiv 8-(r:Int)).tmod ((64:Nat):Int)+((64:Nat):Int).tdiv 8):=by rw [hPl];unfold yh;omega
     refine wk ?_
     rw [hPl]
     refine wk ?_
     have hPp:zk6 m r all=zb3 Q all 8:=by unfold zk6;rw [←hQ]
     have hNone:=zf0 (n:=m) (R:=(l.take r)) (by rw [show (l.take r).length=r by rw [List.length_take];omega,hb];omega) all
     rw [show (l.take r).length=r by rw [List.length_take];omega,hPp] at hNone
     refine zt (Ix (8)) (fun q=>⟨[(0,.ptr 0 0 0 []),(3,.ptr 2 0 0 []),(4,.int 64),(5,.sl 4 0 0 [] Q Q),(39,.int q.i)],[.mk 198 [.int m,.arr64 8 H,.arr64 80 k,.sl 1 0 0 [] r c,.u64 all],.mk t [.arr8 L l],.mk 198 [.int m,.arr64 8 H,.arr64 80 k,.sl 3 0 0 [] r (r+tl.length),.u64 all],.mk 5 [.arr8 (r+tl.length) (l.take r++tl)],.mk 5 [.arr8 Q (zb3 Q all q.i)]]⟩) (fun q=>(8)-q.i) ⟨0,Nat.zero_le _⟩ [0,1,2,3,4] ?_ ?_
     ·repeat ((conv=>whnf);refine za ?_)
      exact trivial
     ·intro q
      have hi:=q.hi
      have hpl:=zdr Q all q.i
      have hof:off (yc [] ((Q:Int)-1-(q.i:Int)).toNat ty5.sz)=Q-1-q.i:=by rw [zv];show 0+((Q:Int)-1-(q.i:Int)).toNat*1=_;omega
      have hk8:(8*(q.i:Int)).toNat=8*q.i:=by omega
      by_cases h4:q.i<8
      ·refine wk ?_
       refine ⟨⟨q.i+1,h4⟩,[0,1,2,3,4],by show (8)-(q.i+1)<(8)-q.i;omega,?_⟩
       repeat ((conv=>whnf);refine za ?_)
       conv=>whnf
       refine zh (congrArg (fun x=>SV.agg [SV.arr8 Q x]) (show _=zb3 Q all (q.i+1) by simp only [zb3];rw [hof,hk8];rfl)) ?_
       repeat ((conv=>whnf);refine za ?_)
       exact trivial
      ·have e4:q.i=8:=by omega
       rw [e4] at hpl
       rw [e4]
       clear hi hof hk8 h4 e4 q
       obtain ⟨P,hP⟩: ∃P,P=zb3 Q all 8:=⟨_,rfl⟩
       rw [←hP] at hpl hNone hPp
       rw [←hP]
       have hPt:List.take Q (List.drop (off []) P)=P:=List.take_of_length_le (Nat.le_of_eq hpl)
       have hpo:off []+Q≤P.length:=by rw [hpl];show 0+Q≤Q;omega
       have hll:(List.take r l++tl).length=r+tl.length:=by rw [List.length_append,List.length_take];omega
       have htt:List.take r (List.take r l++tl)=List.take r l:=List.take_left' (by rw [List.length_take];omega)
       rw [←htt] at hNone
       have hpw:H.length=8∧k.length=80∧P.length≤140737488351232∧0<r∧r≤r+tl.length∧r≤128∧r+tl.length=(List.take r l++tl).length∧r+tl.length=r+tl.length:=⟨hH,hk,by omega,hr0,by omega,by omega,hll.symm,rfl⟩
       refine wk ?_
       rw [hPt]
       repeat ((conv=>whnf);first|refine zn ?_|refine zf ?_|refine zg ?_|refine za ?_|refine zq (by first|exact decide_eq_true hNone) ?_|refine zi (by first|exact decide_eq_true hNone) ?_|refine zj (by first|exact decide_eq_true hNone) ?_)
       conv=>whnf
       have hWl:=zaf (n:=m) (k:=k) hH (List.take r (List.take r l++tl)) P
       generalize hWd:wrH m k H (List.take r (List.take r l++tl)) P=W at*
       refine zt (Option (Ow 4)) (fun q=>match q with
         |none=>⟨[(0,.ptr 0 0 0 []),(3,.ptr 2 0 0 []),(7,.nilsl),(8,.int 4),(68,.arr64 8 W),(69,.int 0)],[.mk 198 [.int m,.arr64 8 H,.arr64 80 k,.sl 1 0 0 [] r c,.u64 all],.mk t [.arr8 L l],.mk 198 [.int m,.arr64 8 W,.arr64 80 k,.nilsl,.u64 (all+UInt64.ofNat P.length)]]⟩
         |some s=>⟨[(0,.ptr 0 0 0 []),(3,.ptr 2 0 0 []),(7,.sl 3 0 0 [] (4*s.a) (4*s.a+s.tl.length)),(8,.int 4),(68,.arr64 8 W),(69,.int s.a)],[.mk 198 [.int m,.arr64 8 H,.arr64 80 k,.sl 1 0 0 [] r c,.u64 all],.mk t [.arr8 L l],.mk 198 [.int m,.arr64 8 W,.arr64 80 k,.nilsl,.u64 (all+UInt64.ofNat P.length)],.mk 5 [.arr8 (4*s.a+s.tl.length) ((List.range (4*s.a)).map (outG W 4)++s.tl)]]⟩)
         (fun q=>match q with|none=>9|some s=>8-s.a) none [0,1,2] ?_ ?_
       ·repeat ((conv=>whnf);refine za ?_)
        exact trivial
       ·intro q
        cases q with
        |none=>
         refine wk ?_
         refine zt (Option (Iw 4)) (fun v=>match v with
           |none=>⟨[(0,.ptr 0 0 0 []),(3,.ptr 2 0 0 []),(7,.nilsl),(8,.int 4),(10,.u64 (W.getD (off [(Int.toNat 0,x4.sz)]) 0)),(11,.int (4-1)),(68,.arr64 8 W),(69,.int 0)],[.mk 198 [.int m,.arr64 8 H,.arr64 80 k,.sl 1 0 0 [] r c,.u64 all],.mk t [.arr8 L l],.mk 198 [.int m,.arr64 8 W,.arr64 80 k,.nilsl,.u64 (all+UInt64.ofNat P.length)]]⟩
           |some v=>⟨[(0,.ptr 0 0 0 []),(3,.ptr 2 0 0 []),(7,.sl 3 0 0 [] v.j (v.j+v.tl.length)),(8,.int 4),(10,.u64 (W.getD (off [(Int.toNat 0,x4.sz)]) 0)),(11,.int ((4:Int)-1-v.j)),(68,.arr64 8 W),(69,.int 0)],[.mk 198 [.int m,.arr64 8 H,.arr64 80 k,.sl 1 0 0 [] r c,.u64 all],.mk t [.arr8 L l],.mk 198 [.int m,.arr64 8 W,.arr64 80 k,.nilsl,.u64 (all+UInt64.ofNat P.length)],.mk 5 [.arr8 (v.j+v.tl.length) ((List.range v.j).map (outG W 4)++v.tl)]]⟩)
           (fun v=>match v with|none=>4+1|some v=>4-v.j) none [0,1,2] ?_ ?_
         ·repeat ((conv=>whnf);refine za ?_)
          exact trivial
         ·intro v
          cases v with
          |none=>
           refine wk ?_
           refine yq fun t1=>?_
           refine wk ?_
           rw [zed]
           refine ⟨some ⟨1,t1,by omega⟩,[0,1,2,4],by show 4-1<4+1;omega,?_⟩
           repeat ((conv=>whnf);refine za ?_)
           exact trivial
          |some v=>
           have hj':=v.hj
           by_cases hj:v.j<4
           ·refine wk ?_
            rw [zed]
            refine zq ⟨by omega,by rw [List.length_append,z4],by show _+1≤_;omega⟩ ?_
            refine wk ?_
            refine yq fun t2=>?_
            refine wk ?_
            refine ⟨some ⟨v.j+1,t2,by omega⟩,[0,1,2,5],by show 4-(v.j+1)<4-v.j;omega,?_⟩
            repeat ((conv=>whnf);refine za ?_)
            conv=>whnf
            refine zh (congrArg (fun x=>SV.agg [SV.arr8 ((v.j+1)+t2.length) x]) (zbs (g:=outG W 4) (n:=v.j) (by have:=zbx W 4 0 v.j hj (k:=Int.toNat 0) rfl (I:=4-1-(v.j:Int)) rfl;rwa [Nat.mul_zero,Nat.zero_add] at this) _ _)) ?_
            repeat ((conv=>whnf);refine za ?_)
            conv=>whnf
            refine zh (congrArg SV.int (show (4:Int)-1-(v.j:Int)-1=4-1-((v.j+1:Nat):Int) by omega)) ?_
            repeat ((conv=>whnf);refine za ?_)
            exact trivial
           ·have ej:v.j=4:=by omega
            refine wk ?_
            refine ⟨some ⟨0+1,v.tl,by omega⟩,[0,1,2,3],by show 8-(0+1)<9;omega,?_⟩
            rw [ej]
            repeat ((conv=>whnf);refine za ?_)
            exact trivial
        |some s=>
         have ha:=s.ha
         by_cases h8:s.a<8
         ·refine wk ?_
          refine zt (Iw 4) (fun v=>⟨[(0,.ptr 0 0 0 []),(3,.ptr 2 0 0 []),(7,.sl 3 0 0 [] (4*s.a+v.j) ((4*s.a+v.j)+v.tl.length)),(8,.int 4),(10,.u64 (W.getD (off [((s.a:Int).toNat,x4.sz)]) 0)),(11,.int ((4:Int)-1-v.j)),(68,.arr64 8 W),(69,.int (s.a:Int))],[.mk 198 [.int m,.arr64 8 H,.arr64 80 k,.sl 1 0 0 [] r c,.u64 all],.mk t [.arr8 L l],.mk 198 [.int m,.arr64 8 W,.arr64 80 k,.nilsl,.u64 (all+UInt64.ofNat P.length)],.mk 5 [.arr8 ((4*s.a+v.j)+v.tl.length) ((List.range (4*s.a+v.j)).map (outG W 4)++v.tl)]]⟩) (fun v=>4-v.j) ⟨0,s.tl,Nat.zero_le _⟩ [0,1,2,3] ?_ ?_
          ·repeat ((conv=>whnf);refine za ?_)
           exact trivial
          ·intro v
           have hj':=v.hj
           by_cases hj:v.j<4
           ·refine wk ?_
            rw [zed]
            refine zq ⟨by omega,by rw [List.length_append,z4],by show _+1≤_;omega⟩ ?_
            refine wk ?_
            refine yq fun t2=>?_
            refine wk ?_
            refine ⟨⟨v.j+1,t2,by omega⟩,[0,1,2,5],by show 4-(v.j+1)<4-v.j;omega,?_⟩
            repeat ((conv=>whnf);refine za ?_)
            conv=>whnf
            refine zh (congrArg (fun x=>SV.agg [SV.arr8 ((4*s.a+(v.j+1))+t2.length) x]) (zbs (g:=outG W 4) (n:=(4*s.a+v.j)) (zbx W 4 s.a v.j hj (Int.toNat_natCast _) rfl) _ _)) ?_
            repeat ((conv=>whnf);refine za ?_)
            conv=>whnf
            refine zh (congrArg SV.int (show (4:Int)-1-(v.j:Int)-1=4-1-((v.j+1:Nat):Int) by omega)) ?_
            repeat ((conv=>whnf);refine za ?_)
            exact trivial
           ·have ej:v.j=4:=by omega
            refine wk ?_
            refine ⟨some ⟨s.a+1,v.tl,by omega⟩,[0,1,2,3],by show 8-(s.a+1)<8-s.a;omega,?_⟩
            rw [ej]
            repeat ((conv=>whnf);refine za ?_)
            exact trivial
         ·have e8:s.a=8:=by omega
          have h8m:(8:Int)≠0∧yh (m.tdiv 8):=by rw [hm];exact ⟨by decide,by unfold yh;decide⟩
          have hd8m:m.tdiv 8=32:=by rw [hm];rfl
          refine wk ?_
          rw [e8,hd8m]
          have hOl:=ze9 W 4
          have hO:(List.range (4*8)).map (outG W 4)=zhh W 4:=by unfold zhh;rfl
          have hpo:off []+Int.toNat 32≤((List.range (4*8)).map (outG W 4)++s.tl).length:=by rw [List.length_append,z4];show 0+32≤_;omega
          have hsm:zdj m k H (l.take r) all=List.take (Int.toNat 32) (List.drop (off []) ((List.range (4*8)).map (outG W 4)++s.tl)):=by
            unfold zdj
            rw [show (l.take r).length=r by rw [List.length_take];omega,hPp,←htt,hWd,hb,hO,show (m/ 8).toNat=32 by rw [hm];rfl]
            show _=List.take 32 (zhh W 4++s.tl)
            rw [List.take_append_of_le_length (by rw [hOl];decide)]
          rw [hsm] at h
          refine wk ?_
          exact ze (hp':= [.mk 198 [.int m,.arr64 8 H,.arr64 80 k,.sl 1 0 0 [] r c,.u64 all],.mk t [.arr8 L l]]) [0,1] h
    ·have hb:bk m=128:=by unfold bk;rw [if_neg (by omega)]
     refine wk ?_
     refine yq fun tl=>?_
     refine wk ?_
     rw [hb]
     have hq1:(8:Int)≠0∧yh (((128:Nat):Int).tdiv 8):=⟨by decide,by unfold yh;decide⟩
     have hq2:(16:Int)≠0∧yh (((128:Nat):Int).tdiv 16):=⟨by decide,by unfold yh;decide⟩
     have hd8:((128:Nat):Int).tdiv 8=16:=rfl
     have hd16:((128:Nat):Int).tdiv 16=8:=rfl
     have hmd:(2*((128:Nat):Int)-1-((128:Nat):Int).tdiv 8-(r:Int)).tmod ((128:Nat):Int)=(((239-r)%128:Nat):Int):=by rw [hd8,Int.tmod_eq_emod_of_nonneg (by omega)];omega
     have hft:yh (1+(2*((128:Nat):Int)-1-((128:Nat):Int).tdiv 8-(r:Int)).tmod ((128:Nat):Int)):=by rw [hmd];unfold yh;omega
     have hPl:1+(2*((128:Nat):Int)-1-((128:Nat):Int).tdiv 8-(r:Int)).tmod ((128:Nat):Int)+((128:Nat):Int).tdiv 8=((zbf m r:Nat):Int):=by rw [hmd,hd8];unfold zbf;rw [hb];omega
     have hPb:16+1≤zbf m r∧zbf m r≤200:=by unfold zbf;rw [hb];omega
     obtain ⟨Q,hQ⟩: ∃Q,Q=zbf m r:=⟨_,rfl⟩
     rw [←hQ] at hPl hPb
     have hft2:yh (1+(2*((128:Nat):Int)-1-((128:Nat):Int).tdiv 8-(r:Int)).tmod ((128:Nat):Int)+((128:Nat):Int).tdiv 8):=by rw [hPl];unfold yh;omega
     refine wk ?_
     rw [hPl]
     refine wk ?_
     have hPp:zk6 m r all=zb3 Q all 8:=by unfold zk6;rw [←hQ]
     have hNone:=zf0 (n:=m) (R:=(l.take r)) (by rw [show (l.take r).length=r by rw [List.length_take];omega,hb];omega) all
     rw [show (l.take r).length=r by rw [List.length_take];omega,hPp] at hNone
     refine zt (Ix (8)) (fun q=>⟨[(0,.ptr 0 0 0 []),(3,.ptr 2 0 0 []),(4,.int 128),(5,.sl 4 0 0 [] Q Q),(39,.int q.i)],[.mk 198 [.int m,.arr64 8 H,.arr64 80 k,.sl 1 0 0 [] r c,.u64 all],.mk t [.arr8 L l],.mk 198 [.int m,.arr64 8 H,.arr64 80 k,.sl 3 0 0 [] r (r+tl.length),.u64 all],.mk 5 [.arr8 (r+tl.length) (l.take r++tl)],.mk 5 [.arr8 Q (zb3 Q all q.i)]]⟩) (fun q=>(8)-q.i) ⟨0,Nat.zero_le _⟩ [0,1,2,3,4] ?_ ?_
     ·repeat ((conv=>whnf);refine za ?_)
      exact trivial
     ·intro q
      have hi:=q.hi
      have hpl:=zdr Q all q.i
      have hof:off (yc [] ((Q:Int)-1-(q.i:Int)).toNat ty5.sz)=Q-1-q.i:=by rw [zv];show 0+((Q:Int)-1-(q.i:Int)).toNat*1=_;omega
      have hk8:(8*(q.i:Int)).toNat=8*q.i:=by omega
      by_cases h4:q.i<8
      ·refine wk ?_
       refine ⟨⟨q.i+1,h4⟩,[0,1,2,3,4],by show (8)-(q.i+1)<(8)-q.i;omega,?_⟩
       repeat ((conv=>whnf);refine za ?_)
       conv=>whnf
       refine zh (congrArg (fun x=>SV.agg [SV.arr8 Q x]) (show _=zb3 Q all (q.i+1) by simp only [zb3];rw [hof,hk8];rfl)) ?_
       repeat ((conv=>whnf);refine za ?_)
       exact trivial
      ·have e4:q.i=8:=by omega
       rw [e4] at hpl
       rw [e4]
       clear hi hof hk8 h4 e4 q
       obtain ⟨P,hP⟩: ∃P,P=zb3 Q all 8:=⟨_,rfl⟩
       rw [←hP] at hpl hNone hPp
       rw [←hP]
       have hPt:List.take Q (List.drop (off []) P)=P:=List.take_of_length_le (Nat.le_of_eq hpl)
       have hpo:off []+Q≤P.length:=by rw [hpl];show 0+Q≤Q;omega
       have hll:(List.take r l++tl).length=r+tl.length:=by rw [List.length_append,List.length_take];omega
       have htt:List.take r (List.take r l++tl)=List.take r l:=List.take_left' (by rw [List.length_take];omega)
       rw [←htt] at hNone
       have hpw:H.length=8∧k.length=80∧P.length≤140737488351232∧0<r∧r≤r+tl.length∧r≤128∧r+tl.length=(List.take r l++tl).length∧r+tl.length=r+tl.length:=⟨hH,hk,by omega,hr0,by omega,by omega,hll.symm,rfl⟩
       refine wk ?_
       rw [hPt]
       repeat ((conv=>whnf);first|refine zn ?_|refine zf ?_|refine zg ?_|refine za ?_|refine zq (by first|exact decide_eq_true hNone) ?_|refine zi (by first|exact decide_eq_true hNone) ?_|refine zj (by first|exact decide_eq_true hNone) ?_)
       conv=>whnf
       have hWl:=zaf (n:=m) (k:=k) hH (List.take r (List.take r l++tl)) P
       generalize hWd:wrH m k H (List.take r (List.take r l++tl)) P=W at*
       refine zt (Option (Ow 8)) (fun q=>match q with
         |none=>⟨[(0,.ptr 0 0 0 []),(3,.ptr 2 0 0 []),(7,.nilsl),(8,.int 8),(68,.arr64 8 W),(69,.int 0)],[.mk 198 [.int m,.arr64 8 H,.arr64 80 k,.sl 1 0 0 [] r c,.u64 all],.mk t [.arr8 L l],.mk 198 [.int m,.arr64 8 W,.arr64 80 k,.nilsl,.u64 (all+UInt64.ofNat P.length)]]⟩
         |some s=>⟨[(0,.ptr 0 0 0 []),(3,.ptr 2 0 0 []),(7,.sl 3 0 0 [] (8*s.a) (8*s.a+s.tl.length)),(8,.int 8),(68,.arr64 8 W),(69,.int s.a)],[.mk 198 [.int m,.arr64 8 H,.arr64 80 k,.sl 1 0 0 [] r c,.u64 all],.mk t [.arr8 L l],.mk 198 [.int m,.arr64 8 W,.arr64 80 k,.nilsl,.u64 (all+UInt64.ofNat P.length)],.mk 5 [.arr8 (8*s.a+s.tl.length) ((List.range (8*s.a)).map (outG W 8)++s.tl)]]⟩)
         (fun q=>match q with|none=>9|some s=>8-s.a) none [0,1,2] ?_ ?_
       ·repeat ((conv=>whnf);refine za ?_)
        exact trivial
       ·intro q
        cases q with
        |none=>
         refine wk ?_
         refine zt (Option (Iw 8)) (fun v=>match v with
           |none=>⟨[(0,.ptr 0 0 0 []),(3,.ptr 2 0 0 []),(7,.nilsl),(8,.int 8),(10,.u64 (W.getD (off [(Int.toNat 0,x4.sz)]) 0)),(11,.int (8-1)),(68,.arr64 8 W),(69,.int 0)],[.mk 198 [.int m,.arr64 8 H,.arr64 80 k,.sl 1 0 0 [] r c,.u64 all],.mk t [.arr8 L l],.mk 198 [.int m,.arr64 8 W,.arr64 80 k,.nilsl,.u64 (all+UInt64.ofNat P.length)]]⟩
           |some v=>⟨[(0,.ptr 0 0 0 []),(3,.ptr 2 0 0 []),(7,.sl 3 0 0 [] v.j (v.j+v.tl.length)),(8,.int 8),(10,.u64 (W.getD (off [(Int.toNat 0,x4.sz)]) 0)),(11,.int ((8:Int)-1-v.j)),(68,.arr64 8 W),(69,.int 0)],[.mk 198 [.int m,.arr64 8 H,.arr64 80 k,.sl 1 0 0 [] r c,.u64 all],.mk t [.arr8 L l],.mk 198 [.int m,.arr64 8 W,.arr64 80 k,.nilsl,.u64 (all+UInt64.ofNat P.length)],.mk 5 [.arr8 (v.j+v.tl.length) ((List.range v.j).map (outG W 8)++v.tl)]]⟩)
           (fun v=>match v with|none=>8+1|some v=>8-v.j) none [0,1,2] ?_ ?_
         ·repeat ((conv=>whnf);refine za ?_)
          exact trivial
         ·intro v
          cases v with
          |none=>
           refine wk ?_
           refine yq fun t1=>?_
           refine wk ?_
           rw [zed]
           refine ⟨some ⟨1,t1,by omega⟩,[0,1,2,4],by show 8-1<8+1;omega,?_⟩
           repeat ((conv=>whnf);refine za ?_)
           exact trivial
          |some v=>
           have hj':=v.hj
           by_cases hj:v.j<8
           ·refine wk ?_
            rw [zed]
            refine zq ⟨by omega,by rw [List.length_append,z4],by show _+1≤_;omega⟩ ?_
            refine wk ?_
            refine yq fun t2=>?_
            refine wk ?_
            refine ⟨some ⟨v.j+1,t2,by omega⟩,[0,1,2,5],by show 8-(v.j+1)<8-v.j;omega,?_⟩
            repeat ((conv=>whnf);refine za ?_)
            conv=>whnf
            refine zh (congrArg (fun x=>SV.agg [SV.arr8 ((v.j+1)+t2.length) x]) (zbs (g:=outG W 8) (n:=v.j) (by have:=zbx W 8 0 v.j hj (k:=Int.toNat 0) rfl (I:=8-1-(v.j:Int)) rfl;rwa [Nat.mul_zero,Nat.zero_add] at this) _ _)) ?_
            repeat ((conv=>whnf);refine za ?_)
            conv=>whnf
            refine zh (congrArg SV.int (show (8:Int)-1-(v.j:Int)-1=8-1-((v.j+1:Nat):Int) by omega)) ?_
            repeat ((conv=>whnf);refine za ?_)
            exact trivial
           ·have ej:v.j=8:=by omega
            refine wk ?_
            refine ⟨some ⟨0+1,v.tl,by omega⟩,[0,1,2,3],by show 8-(0+1)<9;omega,?_⟩
            rw [ej]
            repeat ((conv=>whnf);refine za ?_)
            exact trivial
        |some s=>
         have ha:=s.ha
         by_cases h8:s.a<8
         ·refine wk ?_
          refine zt (Iw 8) (fun v=>⟨[(0,.ptr 0 0 0 []),(3,.ptr 2 0 0 []),(7,.sl 3 0 0 [] (8*s.a+v.j) ((8*s.a+v.j)+v.tl.length)),(8,.int 8),(10,.u64 (W.getD (off [((s.a:Int).toNat,x4.sz)]) 0)),(11,.int ((8:Int)-1-v.j)),(68,.arr64 8 W),(69,.int (s.a:Int))],[.mk 198 [.int m,.arr64 8 H,.arr64 80 k,.sl 1 0 0 [] r c,.u64 all],.mk t [.arr8 L l],.mk 198 [.int m,.arr64 8 W,.arr64 80 k,.nilsl,.u64 (all+UInt64.ofNat P.length)],.mk 5 [.arr8 ((8*s.a+v.j)+v.tl.length) ((List.range (8*s.a+v.j)).map (outG W 8)++v.tl)]]⟩) (fun v=>8-v.j) ⟨0,s.tl,Nat.zero_le _⟩ [0,1,2,3] ?_ ?_
          ·repeat ((conv=>whnf);refine za ?_)
           exact trivial
          ·intro v
           have hj':=v.hj
           by_cases hj:v.j<8
           ·refine wk ?_
            rw [zed]
            refine zq ⟨by omega,by rw [List.length_append,z4],by show _+1≤_;omega⟩ ?_
            refine wk ?_
            refine yq fun t2=>?_
            refine wk ?_
            refine ⟨⟨v.j+1,t2,by omega⟩,[0,1,2,5],by show 8-(v.j+1)<8-v.j;omega,?_⟩
            repeat ((conv=>whnf);refine za ?_)
            conv=>whnf
            refine zh (congrArg (fun x=>SV.agg [SV.arr8 ((8*s.a+(v.j+1))+t2.length) x]) (zbs (g:=outG W 8) (n:=(8*s.a+v.j)) (zbx W 8 s.a v.j hj (Int.toNat_natCast _) rfl) _ _)) ?_
            repeat ((conv=>whnf);refine za ?_)
            conv=>whnf
            refine zh (congrArg SV.int (show (8:Int)-1-(v.j:Int)-1=8-1-((v.j+1:Nat):Int) by omega)) ?_
            repeat ((conv=>whnf);refine za ?_)
            exact trivial
           ·have ej:v.j=8:=by omega
            refine wk ?_
            refine ⟨some ⟨s.a+1,v.tl,by omega⟩,[0,1,2,3],by show 8-(s.a+1)<8-s.a;omega,?_⟩
            rw [ej]
            repeat ((conv=>whnf);refine za ?_)
            exact trivial
         ·have e8:s.a=8:=by omega
          have h8m:(8:Int)≠0∧yh (m.tdiv 8):=by rw [hm];exact ⟨by decide,by unfold yh;decide⟩
          have hd8m:m.tdiv 8=48:=by rw [hm];rfl
          refine wk ?_
          rw [e8,hd8m]
          have hOl:=ze9 W 8
          have hO:(List.range (8*8)).map (outG W 8)=zhh W 8:=by unfold zhh;rfl
          have hpo:off []+Int.toNat 48≤((List.range (8*8)).map (outG W 8)++s.tl).length:=by rw [List.length_append,z4];show 0+48≤_;omega
          have hsm:zdj m k H (l.take r) all=List.take (Int.toNat 48) (List.drop (off []) ((List.range (8*8)).map (outG W 8)++s.tl)):=by
            unfold zdj
            rw [show (l.take r).length=r by rw [List.length_take];omega,hPp,←htt,hWd,hb,hO,show (m/ 8).toNat=48 by rw [hm];rfl]
            show _=List.take 48 (zhh W 8++s.tl)
            rw [List.take_append_of_le_length (by rw [hOl];decide)]
          rw [hsm] at h
          refine wk ?_
          exact ze (hp':= [.mk 198 [.int m,.arr64 8 H,.arr64 80 k,.sl 1 0 0 [] r c,.u64 all],.mk t [.arr8 L l]]) [0,1] h
   ·exact h.elim
def zp3:Spec:=fun args hp K=>match args,hp with
  | [.int n,.str s],[]=>Pre ((n=256∨n=384)∧s.length≤140737488351232) (K (.tup [.str (zhm n s),.int 0]) [])
  |_,_=>False
theorem zyq:zp prog 138 zp3:=by
  refine zo x0 (zd zy6 (zd zg2 (zd zus zk))) rfl func138 rfl call138 (D:=z7w) ?_ ?_
  ·intro args hp K h
   unfold zp3 at h
   split at h
   ·exact Nat.le_of_ble_eq_true rfl
   ·exact h.elim
  ·intro args hp K h
   unfold zp3 at h
   split at h
   ·rename_i n s
    obtain ⟨⟨hn,hs⟩,h⟩:=zl h
    have hd:=decide_eq_true hn
    have hk:=zpb
    have hl:=zpc n
    have hwl:=zaf (n:=n) (k:=KC) hl [] s
    have hall:(0:UInt64)+UInt64.ofNat s.length=UInt64.ofNat s.length:=UInt64.zero_add _
    have hF:zhm n s=zdj n KC (wrH n KC (HB n) [] s) (wrR n [] s) (0+UInt64.ofNat s.length):=by unfold zhm;rw [hall]
    rw [hF] at h
    by_cases hz:(wrR n [] s).length=0
    ·have hz0:wrR n [] s= []:=List.length_eq_zero_iff.1 hz
     rw [hz0] at h
     have hps:(wrH n KC (HB n) [] s).length=8∧KC.length=80∧198=198∧(n=256∨n=384):=⟨hwl,hk,rfl,hn⟩
     repeat ((conv=>whnf);first|refine zn ?_|refine zf ?_|refine zg ?_|refine za ?_|refine zq (by first|exact hd) ?_|refine zi (by first|exact hd) ?_|refine zj (by first|exact hd) ?_)
     conv=>whnf
     conv=>whnf
     exact ze (hp':= []) [] h
    ·have hrl:=zoj n [] s
     repeat ((conv=>whnf);first|refine zn ?_|refine zf ?_|refine zg ?_|refine za ?_|refine zq (by first|exact hd) ?_|refine zi (by first|exact hd) ?_|refine zj (by first|exact hd) ?_)
     conv=>whnf
     refine yq fun tl=>?_
     have htk:List.take (wrR n [] s).length (wrR n [] s++tl)=wrR n [] s:=List.take_left' rfl
     have hps:(wrH n KC (HB n) [] s).length=8∧KC.length=80∧198=198∧(n=256∨n=384)∧0<(wrR n [] s).length∧(wrR n [] s).length<bk n∧(wrR n [] s).length≤(wrR n [] s).length+tl.length∧(wrR n [] s).length≤(wrR n [] s++tl).length:=⟨hwl,hk,rfl,hn,by omega,hrl,by omega,by rw [List.length_append];omega⟩
     refine wk ?_
     rw [htk]
     conv=>whnf
     exact ze (hp':= []) [] h
   ·exact h.elim
end Go.Sym.A

namespace Go.Sym.Hk
open Go.Sym.Lp Go.Sym.Sha
def kN (n:Int) (key:List UInt8):List UInt8:=if bk n<key.length then zhm n key else key
def pdX (n:Nat) (key:List UInt8) (b:UInt8):List UInt8:=(List.range n).map fun i=>key.getD i 0^^^b
theorem zbi (n:Nat) (key:List UInt8) (b:UInt8):(pdX n key b).length=n:=z4 _ _
def mP (n:Int) (key:List UInt8) (b:UInt8):List UInt64:=wrH n KC (HB n) [] (pdX (bk n) (kN n key) b)
theorem zzp (n:Int) (key:List UInt8) (b:UInt8):(mP n key b).length=8:=zaf (zpc n) _ _
def dgF (n:Int) (H:List UInt64) (s:List UInt8):List UInt8:=zdj n KC (wrH n KC H [] s) (wrR n [] s) (UInt64.ofNat (bk n)+UInt64.ofNat s.length)
theorem zog {n:Int} (hn:n=256∨n=384) (H:List UInt64) (s:List UInt8):(dgF n H s).length=dl n:=zhi hn _ _ _ _
def z4p (n:Int) (key s:List UInt8):List UInt8:=dgF n (mP n key 92) (dgF n (mP n key 54) s)
theorem zyv {n:Int} (hn:n=256∨n=384) (key s:List UInt8):(z4p n key s).length=dl n:=zog hn _ _
def x9 (n:Int) (key info:List UInt8):Nat→List UInt8×List UInt8
  |0=>([],[])
  |i+1=>((x9 n key info i).1++z4p n key ((x9 n key info i).2++info++ [UInt8.ofInt ((i:Int)+1)]),z4p n key ((x9 n key info i).2++info++ [UInt8.ofInt ((i:Int)+1)]))
theorem zk4 {n:Int} (hn:n=256∨n=384) (key info:List UInt8): ∀i,(x9 n key info i).1.length=dl n*i∧(x9 n key info i).2.length≤48
  |0=>⟨rfl,Nat.zero_le _⟩
  |i+1=>by
   have h:=zk4 hn key info i
   have hm:=zyv hn key ((x9 n key info i).2++info++ [UInt8.ofInt ((i:Int)+1)])
   simp only [x9,List.length_append,Nat.mul_succ]
   refine ⟨by omega,?_⟩
   rw [hm];unfold dl;split<;>decide
theorem z4r (n:Int):0<dl n:=by unfold dl;split<;>decide
def exF (n:Int) (key info:List UInt8) (size:Nat):List UInt8:=(x9 n key info ((size+dl n-1)/ dl n)).1.take size
theorem z1m {n:Int} (hn:n=256∨n=384) (key info:List UInt8) (size:Nat):(exF n key info size).length=size:=by
  unfold exF
  rw [List.length_take,(zk4 hn key info _).1]
  have hp:=z4r n
  have h1:=Nat.div_add_mod (size+dl n-1) (dl n)
  have h2:=Nat.mod_lt (size+dl n-1) hp
  omega
end Go.Sym.Hk
