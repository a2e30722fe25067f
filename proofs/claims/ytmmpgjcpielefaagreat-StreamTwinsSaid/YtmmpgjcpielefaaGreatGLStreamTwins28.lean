/-
  Contracts of functions of the program, each said of symbolic values, and plain laws; no condition beyond each statement's own.
-/
import Derived.Test.YtmmpgjcpielefaaGreatGLStreamTwins27
set_option linter.unusedSimpArgs false
set_option linter.unusedVariables false
namespace Go.Sym.Z
open Go Go.Proofs.Tryz Go.Sym.Lp Go.Sym.Cha Go.Sym.Sha Go.Sym.Hk
set_option maxRecDepth 100000
attribute [local irreducible] zab exF kyF ivF
def yag:List (Nat×List PStep):= [(3,[⟨0,[]⟩,⟨1,[0]⟩,⟨2,[0]⟩,⟨3,[0]⟩,⟨4,[0]⟩,⟨5,[]⟩,⟨6,[]⟩,⟨7,[0,1,2,3,4,5,6]⟩,⟨8,[0,1,2,3,4,5,6]⟩,⟨9,[0,1,2,3,4,5,6]⟩,⟨10,[0,1,2,3,4,5,6]⟩,⟨11,[]⟩,⟨12,[0,1,2,3,4,5,6,7,8,9,10,11]⟩,⟨13,[0,1,2,3,4,5,6,7,8,9,10,11]⟩,⟨14,[0,1,2,3,4,5,6,7,8,9,10,11]⟩,⟨15,[0,1,2,3,4,5,6,7,8,9,10,11]⟩,⟨16,[]⟩,⟨17,[]⟩,⟨18,[]⟩])]
def ycg:List (Nat×List PStep):= [(1,[⟨0,[]⟩,⟨1,[]⟩,⟨2,[]⟩,⟨3,[]⟩,⟨6,[0,1,2,3]⟩,⟨4,[0,1,2,3,6]⟩,⟨5,[6]⟩,⟨7,[0,1,2,3,5]⟩,⟨8,[]⟩,⟨9,[]⟩])]
def ycj:List (Nat×List PStep):= []
def yc0:List (Nat×List PStep):= []
def yb1:List (Nat×List PStep):= []
def ydb:List (Nat×List PStep):= []
def z8z:List (Nat×List PStep):= []
def yb9:List (Nat×List PStep):= []
def z89:List (Nat×List PStep):= []
def yc1:List (Nat×List PStep):= []
def hdF (kind n:Int):List UInt8:= [UInt8.ofInt kind,3,3,UInt8.ofInt (n/ 2^8),UInt8.ofInt n]
def zuw:Spec:=fun args hp K=>match args,hp with
  | [.int kind,.int n],[]=>K (.str (hdF kind n)) []
  |_,_=>False
theorem zvb:zp prog 64 zuw:=by
  refine zn yw (zd zk5 zl) rfl func64 rfl call64 (D:=ycg) ?_ ?_
  ·intro args hp K h
   unfold zuw at h
   split at h
   ·exact Nat.le_of_ble_eq_true rfl
   ·exact h.elim
  ·intro args hp K h
   unfold zuw at h
   split at h
   ·rename_i kind n
    refine za ?_
    rw [ziq,if_neg (by decide)]
    refine za ?_
    rw [if_neg (by decide)]
    refine za ?_
    conv=>whnf
    exact zh [] h
   ·exact h.elim
def zha:Spec:=fun args hp K=>match args,hp with
  | [.int p],[]=>K (.tup [.agg [.int p,.nilptr],.bool (decide (0≤p∧p≤16384))]) []
  |_,_=>False
theorem zj5:zp prog 40 zha:=by
  refine zn yw zl rfl func40 rfl call40 (D:=ycj) ?_ ?_
  ·intro args hp K h
   unfold zha at h
   split at h
   ·exact Nat.le_of_ble_eq_true rfl
   ·exact h.elim
  ·intro args hp K h
   unfold zha at h
   split at h
   ·rename_i p
    by_cases h1:0≤p
    ·by_cases h2:p≤16384
     ·have d2:decide (p≤16384)=true:=decide_eq_true h2
      rw [decide_eq_true ⟨h1,h2⟩] at h
      refine za ?_
      rw [d2]
      conv=>whnf
      exact zh [] h
     ·have d2:decide (p≤16384)=false:=decide_eq_false h2
      rw [decide_eq_false fun hh=>h2 hh.2] at h
      refine za ?_
      rw [d2]
      conv=>whnf
      exact zh [] h
    ·rw [decide_eq_false fun hh=>h1 hh.1] at h
     refine za ?_
     exact zh [] h
   ·exact h.elim
def zwv:Spec:=fun args hp K=>match args,hp with
  | [.int p],[]=>zv (decide (0≤p∧p≤16384)) (K (.tup [.ptr 0 0 0 [],.int 0]) [.mk 74 [.int p,.nilptr,.nilptr,.str [],.int (-1)]]) (K (.tup [.nilptr,.int 2100]) [])
  |_,_=>False
theorem z6n:zp prog 10 zwv:=by
  refine zn yw (zd zj5 zl) rfl func10 rfl call10 (D:=yc0) ?_ ?_
  ·intro args hp K h
   unfold zwv at h
   split at h
   ·exact Nat.le_of_ble_eq_true rfl
   ·exact h.elim
  ·intro args hp K h
   unfold zwv at h
   split at h
   ·rename_i p
    obtain ⟨ht,hf⟩:=zt h
    generalize e:decide (0≤p∧p≤16384)=c at ht hf
    cases c
    ·have h:=hf rfl
     repeat ((conv=>whnf);first|refine zo ?_|refine zf ?_|refine zg ?_|refine zb ?_|refine zr (by first|exact e|(rw [e];rfl)) ?_|refine zi (by first|exact e|(rw [e];rfl)) ?_|refine zj (by first|exact e|(rw [e];rfl)) ?_)
     conv=>whnf
     exact zh [] h
    ·have h:=ht rfl
     repeat ((conv=>whnf);first|refine zo ?_|refine zf ?_|refine zg ?_|refine zb ?_|refine zr (by first|exact e|(rw [e];rfl)) ?_|refine zi (by first|exact e|(rw [e];rfl)) ?_|refine zj (by first|exact e|(rw [e];rfl)) ?_)
     conv=>whnf
     conv=>whnf
     exact zh [1] h
   ·exact h.elim
def zqa:Spec:=fun args hp K=>match args,hp with
  | [.ptr 0 0 0 [],.str s],[.mk t0 [.int p,.nilptr,.nilptr,.str held,.int f]]=>Pre (held.length+s.length<9223372036854775808) (K (.tup []) [.mk t0 [.int p,.nilptr,.nilptr,.str (held++s),.int f]])
  | [.ptr 0 0 0 [],.str s],[.mk t0 [.int p,.ptr 1 0 0 [],.nilptr,.str held,.int f],.mk tka [.int aw,.str akey,.str aiv,.int am]]=>Pre (held.length+s.length<9223372036854775808) (K (.tup []) [.mk t0 [.int p,.ptr 1 0 0 [],.nilptr,.str (held++s),.int f],.mk tka [.int aw,.str akey,.str aiv,.int am]])
  | [.ptr 0 0 0 [],.str s],[.mk t0 [.int p,.nilptr,.ptr 1 0 0 [],.str held,.int f],.mk tkb [.int bw,.str bkey,.str biv,.int bm]]=>Pre (held.length+s.length<9223372036854775808) (K (.tup []) [.mk t0 [.int p,.nilptr,.ptr 1 0 0 [],.str (held++s),.int f],.mk tkb [.int bw,.str bkey,.str biv,.int bm]])
  | [.ptr 0 0 0 [],.str s],[.mk t0 [.int p,.ptr 1 0 0 [],.ptr 2 0 0 [],.str held,.int f],.mk tka [.int aw,.str akey,.str aiv,.int am],.mk tkb [.int bw,.str bkey,.str biv,.int bm]]=>Pre (held.length+s.length<9223372036854775808) (K (.tup []) [.mk t0 [.int p,.ptr 1 0 0 [],.ptr 2 0 0 [],.str (held++s),.int f],.mk tka [.int aw,.str akey,.str aiv,.int am],.mk tkb [.int bw,.str bkey,.str biv,.int bm]])
  |_,_=>False
set_option maxHeartbeats 4000000 in
theorem z32:zp prog 14 zqa:=by
  refine zn yw zl rfl func14 rfl call14 (D:=yb1) ?_ ?_
  ·intro args hp K h
   unfold zqa at h
   split at h
   ·exact Nat.le_of_ble_eq_true rfl
   ·exact Nat.le_of_ble_eq_true rfl
   ·exact Nat.le_of_ble_eq_true rfl
   ·exact Nat.le_of_ble_eq_true rfl
   ·exact h.elim
  ·intro args hp K h
   unfold zqa at h
   split at h
   ·rename_i s t0 p held f
    obtain ⟨hl,h⟩:=zm h
    refine za ?_
    exact zh [0] h
   ·rename_i s t0 p held f tka aw akey aiv am
    obtain ⟨hl,h⟩:=zm h
    refine za ?_
    exact zh [0,1] h
   ·rename_i s t0 p held f tkb bw bkey biv bm
    obtain ⟨hl,h⟩:=zm h
    refine za ?_
    exact zh [0,1] h
   ·rename_i s t0 p held f tka aw akey aiv am tkb bw bkey biv bm
    obtain ⟨hl,h⟩:=zm h
    refine za ?_
    exact zh [0,1,2] h
   ·exact h.elim
def zui:Spec:=fun args hp K=>match args,hp with
  | [.ptr 0 0 0 []],[.mk t0 [.int p,.nilptr,.nilptr,.str held,.int f]]=>K (.int 0) [.mk t0 [.int p,.nilptr,.nilptr,.str held,.int f]]
  | [.ptr 0 0 0 []],[.mk t0 [.int p,.ptr 1 0 0 [],.nilptr,.str held,.int f],.mk tka [.int aw,.str akey,.str aiv,.int am]]=>K (.int am) [.mk t0 [.int p,.ptr 1 0 0 [],.nilptr,.str held,.int f],.mk tka [.int aw,.str akey,.str aiv,.int am]]
  | [.ptr 0 0 0 []],[.mk t0 [.int p,.nilptr,.ptr 1 0 0 [],.str held,.int f],.mk tkb [.int bw,.str bkey,.str biv,.int bm]]=>K (.int 0) [.mk t0 [.int p,.nilptr,.ptr 1 0 0 [],.str held,.int f],.mk tkb [.int bw,.str bkey,.str biv,.int bm]]
  | [.ptr 0 0 0 []],[.mk t0 [.int p,.ptr 1 0 0 [],.ptr 2 0 0 [],.str held,.int f],.mk tka [.int aw,.str akey,.str aiv,.int am],.mk tkb [.int bw,.str bkey,.str biv,.int bm]]=>K (.int am) [.mk t0 [.int p,.ptr 1 0 0 [],.ptr 2 0 0 [],.str held,.int f],.mk tka [.int aw,.str akey,.str aiv,.int am],.mk tkb [.int bw,.str bkey,.str biv,.int bm]]
  |_,_=>False
set_option maxHeartbeats 4000000 in
theorem z4h:zp prog 52 zui:=by
  refine zn yw zl rfl func52 rfl call52 (D:=z89) ?_ ?_
  ·intro args hp K h
   unfold zui at h
   split at h
   ·exact Nat.le_of_ble_eq_true rfl
   ·exact Nat.le_of_ble_eq_true rfl
   ·exact Nat.le_of_ble_eq_true rfl
   ·exact Nat.le_of_ble_eq_true rfl
   ·exact h.elim
  ·intro args hp K h
   unfold zui at h
   split at h
   ·rename_i t0 p held f
    refine za ?_
    exact zh [0] h
   ·rename_i t0 p held f tka aw akey aiv am
    refine za ?_
    exact zh [0,1] h
   ·rename_i t0 p held f tkb bw bkey biv bm
    refine za ?_
    exact zh [0,1] h
   ·rename_i t0 p held f tka aw akey aiv am tkb bw bkey biv bm
    refine za ?_
    exact zh [0,1,2] h
   ·exact h.elim
def zp2:Spec:=fun args hp K=>match args,hp with
  | [.ptr 0 0 0 []],[.mk t0 [.int p,.nilptr,.nilptr,.str held,.int f]]=>K (.int 0) [.mk t0 [.int p,.nilptr,.nilptr,.str held,.int f]]
  | [.ptr 0 0 0 []],[.mk t0 [.int p,.ptr 1 0 0 [],.nilptr,.str held,.int f],.mk tka [.int aw,.str akey,.str aiv,.int am]]=>K (.int am) [.mk t0 [.int p,.ptr 1 0 0 [],.nilptr,.str held,.int f],.mk tka [.int aw,.str akey,.str aiv,.int am]]
  | [.ptr 0 0 0 []],[.mk t0 [.int p,.nilptr,.ptr 1 0 0 [],.str held,.int f],.mk tkb [.int bw,.str bkey,.str biv,.int bm]]=>K (.int 0) [.mk t0 [.int p,.nilptr,.ptr 1 0 0 [],.str held,.int f],.mk tkb [.int bw,.str bkey,.str biv,.int bm]]
  | [.ptr 0 0 0 []],[.mk t0 [.int p,.ptr 1 0 0 [],.ptr 2 0 0 [],.str held,.int f],.mk tka [.int aw,.str akey,.str aiv,.int am],.mk tkb [.int bw,.str bkey,.str biv,.int bm]]=>K (.int am) [.mk t0 [.int p,.ptr 1 0 0 [],.ptr 2 0 0 [],.str held,.int f],.mk tka [.int aw,.str akey,.str aiv,.int am],.mk tkb [.int bw,.str bkey,.str biv,.int bm]]
  |_,_=>False
set_option maxHeartbeats 4000000 in
theorem z42:zp prog 24 zp2:=by
  refine zn yw (zd z4h zl) rfl func24 rfl call24 (D:=yc1) ?_ ?_
  ·intro args hp K h
   unfold zp2 at h
   split at h
   ·exact Nat.le_of_ble_eq_true rfl
   ·exact Nat.le_of_ble_eq_true rfl
   ·exact Nat.le_of_ble_eq_true rfl
   ·exact Nat.le_of_ble_eq_true rfl
   ·exact h.elim
  ·intro args hp K h
   unfold zp2 at h
   split at h
   ·rename_i t0 p held f
    refine za ?_
    exact zh [0] h
   ·rename_i t0 p held f tka aw akey aiv am
    refine za ?_
    exact zh [0,1] h
   ·rename_i t0 p held f tkb bw bkey biv bm
    refine za ?_
    exact zh [0,1] h
   ·rename_i t0 p held f tka aw akey aiv am tkb bw bkey biv bm
    refine za ?_
    exact zh [0,1,2] h
   ·exact h.elim
def zkx:Spec:=fun args hp K=>match args,hp with
  | [.ptr 0 0 0 [],.int w,.str s],[.mk t0 [.int p,.nilptr,.nilptr,.str held,.int f]]=>Pre (s.length≤140737488351232) (zv (decide (su w)) (K (.int 0) [.mk t0 [.int p,.nilptr,.ptr 1 0 0 [],.str held,.int f],.mk 103 [.int w,.str (kyF w s),.str (ivF w s),.int 0]]) (K (.int 2100) [.mk t0 [.int p,.nilptr,.nilptr,.str held,.int f]]))
  | [.ptr 0 0 0 [],.int w,.str s],[.mk t0 [.int p,.ptr 1 0 0 [],.nilptr,.str held,.int f],.mk tka [.int aw,.str akey,.str aiv,.int am]]=>Pre (s.length≤140737488351232) (zv (decide (su w)) (K (.int 0) [.mk t0 [.int p,.ptr 1 0 0 [],.ptr 2 0 0 [],.str held,.int f],.mk tka [.int aw,.str akey,.str aiv,.int am],.mk 103 [.int w,.str (kyF w s),.str (ivF w s),.int 0]]) (K (.int 2100) [.mk t0 [.int p,.ptr 1 0 0 [],.nilptr,.str held,.int f],.mk tka [.int aw,.str akey,.str aiv,.int am]]))
  | [.ptr 0 0 0 [],.int w,.str s],[.mk t0 [.int p,.nilptr,.ptr 1 0 0 [],.str held,.int f],.mk tkb [.int bw,.str bkey,.str biv,.int bm]]=>Pre (s.length≤140737488351232) (zv (decide (su w)) (K (.int 0) [.mk t0 [.int p,.nilptr,.ptr 2 0 0 [],.str held,.int f],.mk tkb [.int bw,.str bkey,.str biv,.int bm],.mk 103 [.int w,.str (kyF w s),.str (ivF w s),.int 0]]) (K (.int 2100) [.mk t0 [.int p,.nilptr,.ptr 1 0 0 [],.str held,.int f],.mk tkb [.int bw,.str bkey,.str biv,.int bm]]))
  | [.ptr 0 0 0 [],.int w,.str s],[.mk t0 [.int p,.ptr 1 0 0 [],.ptr 2 0 0 [],.str held,.int f],.mk tka [.int aw,.str akey,.str aiv,.int am],.mk tkb [.int bw,.str bkey,.str biv,.int bm]]=>Pre (s.length≤140737488351232) (zv (decide (su w)) (K (.int 0) [.mk t0 [.int p,.ptr 1 0 0 [],.ptr 3 0 0 [],.str held,.int f],.mk tka [.int aw,.str akey,.str aiv,.int am],.mk tkb [.int bw,.str bkey,.str biv,.int bm],.mk 103 [.int w,.str (kyF w s),.str (ivF w s),.int 0]]) (K (.int 2100) [.mk t0 [.int p,.ptr 1 0 0 [],.ptr 2 0 0 [],.str held,.int f],.mk tka [.int aw,.str akey,.str aiv,.int am],.mk tkb [.int bw,.str bkey,.str biv,.int bm]]))
  |_,_=>False
set_option maxHeartbeats 4000000 in
theorem z3b:zp prog 16 zkx:=by
  refine zn yw (zd zgk zl) rfl func16 rfl call16 (D:=ydb) ?_ ?_
  ·intro args hp K h
   unfold zkx at h
   split at h
   ·exact Nat.le_of_ble_eq_true rfl
   ·exact Nat.le_of_ble_eq_true rfl
   ·exact Nat.le_of_ble_eq_true rfl
   ·exact Nat.le_of_ble_eq_true rfl
   ·exact h.elim
  ·intro args hp K h
   unfold zkx at h
   split at h
   ·rename_i w s t0 p held f
    obtain ⟨hl,h⟩:=zm h
    obtain ⟨ht,hf⟩:=zt h
    generalize e:decide (su w)=c at ht hf
    cases c
    ·have h:=hf rfl
     refine za ?_
     exact zh [0] h
    ·have h:=ht rfl
     refine za ?_
     exact zh [0,1] h
   ·rename_i w s t0 p held f tka aw akey aiv am
    obtain ⟨hl,h⟩:=zm h
    obtain ⟨ht,hf⟩:=zt h
    generalize e:decide (su w)=c at ht hf
    cases c
    ·have h:=hf rfl
     refine za ?_
     exact zh [0,1] h
    ·have h:=ht rfl
     refine za ?_
     exact zh [0,1,2] h
   ·rename_i w s t0 p held f tkb bw bkey biv bm
    obtain ⟨hl,h⟩:=zm h
    obtain ⟨ht,hf⟩:=zt h
    generalize e:decide (su w)=c at ht hf
    cases c
    ·have h:=hf rfl
     refine za ?_
     exact zh [0,1] h
    ·have h:=ht rfl
     refine za ?_
     exact zh [0,1,2] h
   ·rename_i w s t0 p held f tka aw akey aiv am tkb bw bkey biv bm
    obtain ⟨hl,h⟩:=zm h
    obtain ⟨ht,hf⟩:=zt h
    generalize e:decide (su w)=c at ht hf
    cases c
    ·have h:=hf rfl
     refine za ?_
     exact zh [0,1,2] h
    ·have h:=ht rfl
     refine za ?_
     exact zh [0,1,2,3] h
   ·exact h.elim
def zlb:Spec:=fun args hp K=>match args,hp with
  | [.ptr 0 0 0 [],.int w,.str s],[.mk t0 [.int p,.nilptr,.nilptr,.str held,.int f]]=>Pre (s.length≤140737488351232) (zv (decide (su w)) (K (.int 0) [.mk t0 [.int p,.ptr 1 0 0 [],.nilptr,.str held,.int f],.mk 103 [.int w,.str (kyF w s),.str (ivF w s),.int 0]]) (K (.int 2100) [.mk t0 [.int p,.nilptr,.nilptr,.str held,.int f]]))
  | [.ptr 0 0 0 [],.int w,.str s],[.mk t0 [.int p,.ptr 1 0 0 [],.nilptr,.str held,.int f],.mk tka [.int aw,.str akey,.str aiv,.int am]]=>Pre (s.length≤140737488351232) (zv (decide (su w)) (K (.int 0) [.mk t0 [.int p,.ptr 2 0 0 [],.nilptr,.str held,.int f],.mk tka [.int aw,.str akey,.str aiv,.int am],.mk 103 [.int w,.str (kyF w s),.str (ivF w s),.int 0]]) (K (.int 2100) [.mk t0 [.int p,.ptr 1 0 0 [],.nilptr,.str held,.int f],.mk tka [.int aw,.str akey,.str aiv,.int am]]))
  | [.ptr 0 0 0 [],.int w,.str s],[.mk t0 [.int p,.nilptr,.ptr 1 0 0 [],.str held,.int f],.mk tkb [.int bw,.str bkey,.str biv,.int bm]]=>Pre (s.length≤140737488351232) (zv (decide (su w)) (K (.int 0) [.mk t0 [.int p,.ptr 2 0 0 [],.ptr 1 0 0 [],.str held,.int f],.mk tkb [.int bw,.str bkey,.str biv,.int bm],.mk 103 [.int w,.str (kyF w s),.str (ivF w s),.int 0]]) (K (.int 2100) [.mk t0 [.int p,.nilptr,.ptr 1 0 0 [],.str held,.int f],.mk tkb [.int bw,.str bkey,.str biv,.int bm]]))
  | [.ptr 0 0 0 [],.int w,.str s],[.mk t0 [.int p,.ptr 1 0 0 [],.ptr 2 0 0 [],.str held,.int f],.mk tka [.int aw,.str akey,.str aiv,.int am],.mk tkb [.int bw,.str bkey,.str biv,.int bm]]=>Pre (s.length≤140737488351232) (zv (decide (su w)) (K (.int 0) [.mk t0 [.int p,.ptr 3 0 0 [],.ptr 2 0 0 [],.str held,.int f],.mk tka [.int aw,.str akey,.str aiv,.int am],.mk tkb [.int bw,.str bkey,.str biv,.int bm],.mk 103 [.int w,.str (kyF w s),.str (ivF w s),.int 0]]) (K (.int 2100) [.mk t0 [.int p,.ptr 1 0 0 [],.ptr 2 0 0 [],.str held,.int f],.mk tka [.int aw,.str akey,.str aiv,.int am],.mk tkb [.int bw,.str bkey,.str biv,.int bm]]))
  |_,_=>False
set_option maxHeartbeats 4000000 in
theorem zw2:zp prog 44 zlb:=by
  refine zn yw (zd zgk zl) rfl func44 rfl call44 (D:=z8z) ?_ ?_
  ·intro args hp K h
   unfold zlb at h
   split at h
   ·exact Nat.le_of_ble_eq_true rfl
   ·exact Nat.le_of_ble_eq_true rfl
   ·exact Nat.le_of_ble_eq_true rfl
   ·exact Nat.le_of_ble_eq_true rfl
   ·exact h.elim
  ·intro args hp K h
   unfold zlb at h
   split at h
   ·rename_i w s t0 p held f
    obtain ⟨hl,h⟩:=zm h
    obtain ⟨ht,hf⟩:=zt h
    generalize e:decide (su w)=c at ht hf
    cases c
    ·have h:=hf rfl
     refine za ?_
     exact zh [0] h
    ·have h:=ht rfl
     refine za ?_
     exact zh [0,1] h
   ·rename_i w s t0 p held f tka aw akey aiv am
    obtain ⟨hl,h⟩:=zm h
    obtain ⟨ht,hf⟩:=zt h
    generalize e:decide (su w)=c at ht hf
    cases c
    ·have h:=hf rfl
     refine za ?_
     exact zh [0,1] h
    ·have h:=ht rfl
     refine za ?_
     exact zh [0,1,2] h
   ·rename_i w s t0 p held f tkb bw bkey biv bm
    obtain ⟨hl,h⟩:=zm h
    obtain ⟨ht,hf⟩:=zt h
    generalize e:decide (su w)=c at ht hf
    cases c
    ·have h:=hf rfl
     refine za ?_
     exact zh [0,1] h
    ·have h:=ht rfl
     refine za ?_
     exact zh [0,1,2] h
   ·rename_i w s t0 p held f tka aw akey aiv am tkb bw bkey biv bm
    obtain ⟨hl,h⟩:=zm h
    obtain ⟨ht,hf⟩:=zt h
    generalize e:decide (su w)=c at ht hf
    cases c
    ·have h:=hf rfl
     refine za ?_
     exact zh [0,1,2] h
    ·have h:=ht rfl
     refine za ?_
     exact zh [0,1,2,3] h
   ·exact h.elim
def zho:Spec:=fun args hp K=>match args,hp with
  | [.ptr 0 0 0 [],.int w,.str s],[.mk t0 [.int p,.nilptr,.nilptr,.str held,.int f]]=>Pre (s.length≤140737488351232) (zv (decide (su w)) (K (.int 0) [.mk t0 [.int p,.ptr 1 0 0 [],.nilptr,.str held,.int f],.mk 103 [.int w,.str (kyF w s),.str (ivF w s),.int 0]]) (K (.int 2100) [.mk t0 [.int p,.nilptr,.nilptr,.str held,.int f]]))
  | [.ptr 0 0 0 [],.int w,.str s],[.mk t0 [.int p,.ptr 1 0 0 [],.nilptr,.str held,.int f],.mk tka [.int aw,.str akey,.str aiv,.int am]]=>Pre (s.length≤140737488351232) (zv (decide (su w)) (K (.int 0) [.mk t0 [.int p,.ptr 2 0 0 [],.nilptr,.str held,.int f],.mk tka [.int aw,.str akey,.str aiv,.int am],.mk 103 [.int w,.str (kyF w s),.str (ivF w s),.int 0]]) (K (.int 2100) [.mk t0 [.int p,.ptr 1 0 0 [],.nilptr,.str held,.int f],.mk tka [.int aw,.str akey,.str aiv,.int am]]))
  | [.ptr 0 0 0 [],.int w,.str s],[.mk t0 [.int p,.nilptr,.ptr 1 0 0 [],.str held,.int f],.mk tkb [.int bw,.str bkey,.str biv,.int bm]]=>Pre (s.length≤140737488351232) (zv (decide (su w)) (K (.int 0) [.mk t0 [.int p,.ptr 2 0 0 [],.ptr 1 0 0 [],.str held,.int f],.mk tkb [.int bw,.str bkey,.str biv,.int bm],.mk 103 [.int w,.str (kyF w s),.str (ivF w s),.int 0]]) (K (.int 2100) [.mk t0 [.int p,.nilptr,.ptr 1 0 0 [],.str held,.int f],.mk tkb [.int bw,.str bkey,.str biv,.int bm]]))
  | [.ptr 0 0 0 [],.int w,.str s],[.mk t0 [.int p,.ptr 1 0 0 [],.ptr 2 0 0 [],.str held,.int f],.mk tka [.int aw,.str akey,.str aiv,.int am],.mk tkb [.int bw,.str bkey,.str biv,.int bm]]=>Pre (s.length≤140737488351232) (zv (decide (su w)) (K (.int 0) [.mk t0 [.int p,.ptr 3 0 0 [],.ptr 2 0 0 [],.str held,.int f],.mk tka [.int aw,.str akey,.str aiv,.int am],.mk tkb [.int bw,.str bkey,.str biv,.int bm],.mk 103 [.int w,.str (kyF w s),.str (ivF w s),.int 0]]) (K (.int 2100) [.mk t0 [.int p,.ptr 1 0 0 [],.ptr 2 0 0 [],.str held,.int f],.mk tka [.int aw,.str akey,.str aiv,.int am],.mk tkb [.int bw,.str bkey,.str biv,.int bm]]))
  |_,_=>False
set_option maxHeartbeats 4000000 in
theorem zx5:zp prog 18 zho:=by
  refine zn yw (zd zw2 zl) rfl func18 rfl call18 (D:=yb9) ?_ ?_
  ·intro args hp K h
   unfold zho at h
   split at h
   ·exact Nat.le_of_ble_eq_true rfl
   ·exact Nat.le_of_ble_eq_true rfl
   ·exact Nat.le_of_ble_eq_true rfl
   ·exact Nat.le_of_ble_eq_true rfl
   ·exact h.elim
  ·intro args hp K h
   unfold zho at h
   split at h
   ·rename_i w s t0 p held f
    obtain ⟨hl,h⟩:=zm h
    obtain ⟨ht,hf⟩:=zt h
    generalize e:decide (su w)=c at ht hf
    cases c
    ·have h:=hf rfl
     refine za ?_
     exact zh [0] h
    ·have h:=ht rfl
     refine za ?_
     exact zh [0,1] h
   ·rename_i w s t0 p held f tka aw akey aiv am
    obtain ⟨hl,h⟩:=zm h
    obtain ⟨ht,hf⟩:=zt h
    generalize e:decide (su w)=c at ht hf
    cases c
    ·have h:=hf rfl
     refine za ?_
     exact zh [0,1] h
    ·have h:=ht rfl
     refine za ?_
     exact zh [0,1,2] h
   ·rename_i w s t0 p held f tkb bw bkey biv bm
    obtain ⟨hl,h⟩:=zm h
    obtain ⟨ht,hf⟩:=zt h
    generalize e:decide (su w)=c at ht hf
    cases c
    ·have h:=hf rfl
     refine za ?_
     exact zh [0,1] h
    ·have h:=ht rfl
     refine za ?_
     exact zh [0,1,2] h
   ·rename_i w s t0 p held f tka aw akey aiv am tkb bw bkey biv bm
    obtain ⟨hl,h⟩:=zm h
    obtain ⟨ht,hf⟩:=zt h
    generalize e:decide (su w)=c at ht hf
    cases c
    ·have h:=hf rfl
     refine za ?_
     exact zh [0,1,2] h
    ·have h:=ht rfl
     refine za ?_
     exact zh [0,1,2,3] h
   ·exact h.elim
def inL (p n:Int):Int:=if 0<p then min ((n+1+p-1)/ p*p) 16385 else n+1
def zqw:Spec:=fun args hp K=>match args,hp with
  | [.ptr 0 0 0 [],.int n],[.mk t0 [.int p,.ptr 1 0 0 [],.nilptr,.str held,.int f],.mk tka [.int aw,.str akey,.str aiv,.int am]]=>Pre (0≤n∧n≤16384∧0≤p∧p≤16384) (K (.int (inL p n)) [.mk t0 [.int p,.ptr 1 0 0 [],.nilptr,.str held,.int f],.mk tka [.int aw,.str akey,.str aiv,.int am]])
  | [.ptr 0 0 0 [],.int n],[.mk t0 [.int p,.ptr 1 0 0 [],.ptr 2 0 0 [],.str held,.int f],.mk tka [.int aw,.str akey,.str aiv,.int am],.mk tkb [.int bw,.str bkey,.str biv,.int bm]]=>Pre (0≤n∧n≤16384∧0≤p∧p≤16384) (K (.int (inL p n)) [.mk t0 [.int p,.ptr 1 0 0 [],.ptr 2 0 0 [],.str held,.int f],.mk tka [.int aw,.str akey,.str aiv,.int am],.mk tkb [.int bw,.str bkey,.str biv,.int bm]])
  |_,_=>False
set_option maxHeartbeats 4000000 in
theorem zy2:zp prog 65 zqw:=by
  refine zn yw zl rfl func65 rfl call65 (D:=yag) ?_ ?_
  ·intro args hp K h
   unfold zqw at h
   split at h
   ·exact Nat.le_of_ble_eq_true rfl
   ·exact Nat.le_of_ble_eq_true rfl
   ·exact h.elim
  ·intro args hp K h
   unfold zqw at h
   split at h
   ·rename_i n t0 p held f tka aw akey aiv am
    obtain ⟨⟨hn0,hn1,hp0,hp1⟩,h⟩:=zm h
    by_cases h0:0<p
    ·have hq:(n+1+p-1).tdiv p=(n+1+p-1)/ p:=Int.tdiv_eq_ediv_of_nonneg (by omega)
     have hm1:=Int.ediv_mul_le (n+1+p-1) (show p≠0 by omega)
     have hm0:0≤(n+1+p-1)/ p:=Int.ediv_nonneg (by omega) (by omega)
     have hm2:0≤(n+1+p-1)/ p*p:=Int.mul_nonneg hm0 hp0
     have hm3:(n+1+p-1)/ p≤n+1+p-1:=Int.ediv_le_self _ (by omega)
     have hpd:p≠0∧yn ((n+1+p-1).tdiv p):=⟨by omega,by rw [hq];unfold yn;omega⟩
     have hpm:yn ((n+1+p-1).tdiv p*p):=by rw [hq];unfold yn;omega
     have hG:inL p n=min ((n+1+p-1).tdiv p*p) 16385:=by unfold inL;rw [if_pos h0,hq]
     rw [hG] at h
     refine za ?_
     exact zh [0,1] h
    ·have hG:inL p n=n+1:=by unfold inL;rw [if_neg h0]
     rw [hG] at h
     refine za ?_
     exact zh [0,1] h
   ·rename_i n t0 p held f tka aw akey aiv am tkb bw bkey biv bm
    obtain ⟨⟨hn0,hn1,hp0,hp1⟩,h⟩:=zm h
    by_cases h0:0<p
    ·have hq:(n+1+p-1).tdiv p=(n+1+p-1)/ p:=Int.tdiv_eq_ediv_of_nonneg (by omega)
     have hm1:=Int.ediv_mul_le (n+1+p-1) (show p≠0 by omega)
     have hm0:0≤(n+1+p-1)/ p:=Int.ediv_nonneg (by omega) (by omega)
     have hm2:0≤(n+1+p-1)/ p*p:=Int.mul_nonneg hm0 hp0
     have hm3:(n+1+p-1)/ p≤n+1+p-1:=Int.ediv_le_self _ (by omega)
     have hpd:p≠0∧yn ((n+1+p-1).tdiv p):=⟨by omega,by rw [hq];unfold yn;omega⟩
     have hpm:yn ((n+1+p-1).tdiv p*p):=by rw [hq];unfold yn;omega
     have hG:inL p n=min ((n+1+p-1).tdiv p*p) 16385:=by unfold inL;rw [if_pos h0,hq]
     rw [hG] at h
     refine za ?_
     exact zh [0,1,2] h
    ·have hG:inL p n=n+1:=by unfold inL;rw [if_neg h0]
     rw [hG] at h
     refine za ?_
     exact zh [0,1,2] h
   ·exact h.elim
end Go.Sym.Z

namespace Go.Sym.Z
open Go Go.Proofs.Tryz Go.Sym.Lp Go.Sym.Gcm Go.Sym.Aes Go.Sym.Pol Go.Sym.Cha
set_option maxRecDepth 100000
attribute [local irreducible] za6 yl zg5 ze2 zeb xl xe yi gst gtg gW gR gH yx
def ztz:Spec:=fun args hp K=>match args,hp with
  | [.agg [.sl 0 0 0 [] n c,.nilsl]],[.mk t [.arr8 m l]]=>Pre (n=l.length∧0<n∧n≤100000)
      (zag fun x:List UInt8=>K (.sl 1 0 0 [] n (n+x.length)) [.mk t [.arr8 m l],.mk 5 [.arr8 (n+x.length) (l++x)]])
  |_,_=>False
theorem z38:zp prog 89 ztz:=by
  refine zn zax zl rfl func89 rfl call89 (D:=yat) ?_ ?_
  ·intro args hp K h
   unfold ztz at h
   split at h
   ·exact Nat.le_of_ble_eq_true rfl
   ·exact h.elim
  ·intro args hp K h
   unfold ztz at h
   split at h
   ·rename_i n c t m l
    obtain ⟨⟨ha,h0,h1⟩,h⟩:=zm h
    have hla:(List.take n (List.drop (off []) l)).length=n:=by rw [List.length_take,List.length_drop];show min n (l.length-0)=n;omega
    have hle:List.take n (List.drop (off []) l)=l:=List.take_of_length_le (by show (List.drop 0 l).length≤n;rw [List.drop_zero];omega)
    refine za ?_
    refine yh fun t1=>?_
    refine za ?_
    refine zr ⟨by omega,by rw [List.length_append],by show _+0≤_;omega⟩ ?_
    refine za ?_
    refine yh fun t2=>?_
    have h:=xp h t2
    refine za ?_
    rw [List.take_left' rfl,hle,List.length_nil,Nat.add_zero,List.append_nil,←ha]
    conv=>whnf
    exact zh [0,3] h
   ·exact h.elim
def zm8:Spec:=fun args hp K=>match args,hp with
  | [.agg [.sl 0 0 0 [] n c,.nilsl],.sl 1 0 0 [] N c2],[.mk t [.arr8 m l],.mk t2 [.arr8 M s]]=>Pre (N=n∧n=l.length∧0<n∧n≤100000∧n≤s.length∧n≤c2)
      (K (.tup []) [.mk t [.arr8 m (s.take n)],.mk t2 [.arr8 M s]])
  |_,_=>False
theorem zyn:zp prog 93 zm8:=by
  refine zn zax zl rfl func93 rfl call93 (D:=ybc) ?_ ?_
  ·intro args hp K h
   unfold zm8 at h
   split at h
   ·exact Nat.le_of_ble_eq_true rfl
   ·exact h.elim
  ·intro args hp K h
   unfold zm8 at h
   split at h
   ·rename_i n c N c2 t m l t2 M s
    obtain ⟨⟨hN,ha,h0,h1,hs,hc⟩,h'⟩:=zm h
    clear h
    subst hN
    have hl1:(List.take N (List.drop (off []) s)).length=N:=by rw [List.length_take,List.length_drop];show min N (s.length-0)=N;omega
    have hmn:(((min (List.take N (List.drop (off []) s)).length N:Nat):Int)).toNat=N:=by rw [hl1];omega
    have hsl:off (yb [] (slO c2 N) ty5.sz)+(N-N)≤s.length:=by
      rw [zy]
      show 0+slO c2 N*1+_≤_
      unfold slO;split<;>omega
    refine za ?_
    have hEq:zw l (off []) (List.take (min (List.take N (List.drop (off []) s)).length N) (List.take N (List.drop (off []) s)))=s.take N:=by
      rw [hl1,Nat.min_self]
      have e1:List.take N (List.take N (List.drop (off []) s))=s.take N:=by rw [List.take_take,Nat.min_self];rfl
      rw [e1]
      unfold zw
      have e2:(s.take N).length=N:=by rw [List.length_take];omega
      show List.take 0 l++s.take N++List.drop (0+(s.take N).length) l=s.take N
      rw [e2,List.take_zero,List.nil_append,Nat.zero_add,List.drop_eq_nil_of_le (by omega),List.append_nil]
    rw [hmn]
    refine za ?_
    refine yv (hp':= [.mk t [.arr8 m (s.take N)],.mk t2 [.arr8 M s]]) [0,1] h' ?_
    repeat ((conv=>whnf);refine zb ?_)
    conv=>whnf
    exact zx (congrArg (fun y=>SV.agg [SV.arr8 m y]) hEq)
   ·exact h.elim
def zlo:Spec:=fun args hp K=>match args,hp with
  | [.int w,.str key,.str nonce,.str aad,.sl 0 0 0 [] n c,.nilsl],[.mk t [.arr8 m l]]=>Pre (n=l.length∧16≤n∧zj8 w key nonce aad ((n:Int)+0-16))
      (K (.int 0) [.mk t [.arr8 m (yx w key nonce aad (l.take (n-16)))]])
  |_,_=>False
set_option maxHeartbeats 4000000 in
theorem znl:zp prog 66 zlo:=by
  refine zn zax (zd zud (zd z38 (zd zj2 (zd zze (zd z2o (zd zyn zl)))))) rfl func66 rfl call66 (D:=ycu) ?_ ?_
  ·intro args hp K h
   unfold zlo at h
   split at h
   ·exact Nat.le_of_ble_eq_true rfl
   ·exact h.elim
  ·intro args hp K h
   unfold zlo at h
   split at h
   ·rename_i w key nonce aad n c t m l
    obtain ⟨⟨hnl,h16,h0⟩,h⟩:=zm h
    have hd:decide (zd5 w key.length∧nonce.length=12∧aad.length≤65536∧(n:Int)+0-16≤65536)=true:=decide_eq_true (by unfold zj8 at h0;exact h0)
    unfold zj8 at h0
    obtain ⟨hk,h1,h2,h3⟩:=h0
    unfold zd5 at hk
    have hnn:((n:Int)+0-16).toNat=n-16:=by omega
    have hpj:n=l.length∧0<n∧n≤100000:=⟨hnl,by omega,by omega⟩
    by_cases h4:w=4867
    ·repeat ((conv=>whnf);first|refine zo ?_|refine zf ?_|refine zg ?_|refine zb ?_|refine zr (by first|exact hd|(rw [hd];rfl)) ?_|refine zi (by first|exact hd|(rw [hd];rfl)) ?_|refine zj (by first|exact hd|(rw [hd];rfl)) ?_)
     conv=>whnf
     refine yh fun x=>?_
     have hRl:(l++x).length=n+x.length:=by rw [List.length_append,←hnl]
     have hT1:List.take ((n:Int)+0-16).toNat (l++x)=l.take (n-16):=by
       rw [hnn,List.take_append_of_le_length (by omega)]
     have hT3:List.drop ((n:Int)+0-16).toNat (l++x)=l.drop (n-16)++x:=by
       rw [hnn,List.drop_append_of_le_length (by omega)]
     have hStr:yi w key nonce=xl key nonce 1:=by funext b;unfold yi;rw [if_pos h4]
     have hX:(xl key nonce (UInt32.ofInt 1) (List.take ((n:Int)+0-16).toNat (l++x))++List.drop ((n:Int)+0-16).toNat (l++x))=yi w key nonce (l.take (n-16))++(l.drop (n-16)++x):=by
       rw [hT1,hT3,hStr];rfl
     have hXl:(xl key nonce (UInt32.ofInt 1) (List.take ((n:Int)+0-16).toNat (l++x))++List.drop ((n:Int)+0-16).toNat (l++x)).length=n+x.length:=by
       rw [hX,List.length_append,List.length_append,xg,List.length_take,List.length_drop]
       omega
     have hof:(off (yb [] (slO (n+x.length) ((n:Int)+0-16).toNat) ty5.sz))=n-16:=by rw [hnn,zy,yy (by omega)];show 0+(n-16)*1=_;omega
     have hpo:(off (yb [] (slO (n+x.length) ((n:Int)+0-16).toNat) ty5.sz))+(n-((n:Int)+0-16).toNat)≤(xl key nonce (UInt32.ofInt 1) (List.take ((n:Int)+0-16).toNat (l++x))++List.drop ((n:Int)+0-16).toNat (l++x)).length:=by rw [hof,hXl,hnn];omega
     have hA1:List.take ((n:Int)+0-16).toNat (xl key nonce (UInt32.ofInt 1) (List.take ((n:Int)+0-16).toNat (l++x))++List.drop ((n:Int)+0-16).toNat (l++x))=yi w key nonce (l.take (n-16)):=by
       rw [hX];exact List.take_left' (by rw [xg,List.length_take,hnn];omega)
     have hTg:(yl key nonce aad (List.take ((n:Int)+0-16).toNat (xl key nonce (UInt32.ofInt 1) (List.take ((n:Int)+0-16).toNat (l++x))++List.drop ((n:Int)+0-16).toNat (l++x))))=xe w key nonce aad (yi w key nonce (l.take (n-16))):=by
       rw [hA1];unfold xe;rw [if_pos h4]
     have hTl:(yl key nonce aad (List.take ((n:Int)+0-16).toNat (xl key nonce (UInt32.ofInt 1) (List.take ((n:Int)+0-16).toNat (l++x))++List.drop ((n:Int)+0-16).toNat (l++x)))).length=16:=by rw [hTg,za2]
     have hpx:key.length=32∧nonce.length=12∧((n:Int)+0-16).toNat≤(l++x).length∧((n:Int)+0-16).toNat≤n+x.length∧((n:Int)+0-16).toNat≤9223372036854775807:=⟨by omega,h1,by omega,by omega,by omega⟩
     have hpt:key.length=32∧nonce.length=12∧aad.length≤65536∧((n:Int)+0-16).toNat≤65536∧((n:Int)+0-16).toNat≤(xl key nonce (UInt32.ofInt 1) (List.take ((n:Int)+0-16).toNat (l++x))++List.drop ((n:Int)+0-16).toNat (l++x)).length∧((n:Int)+0-16).toNat≤n+x.length:=⟨by omega,h1,h2,by omega,by omega,by omega⟩
     have hSp:(zw (xl key nonce (UInt32.ofInt 1) (List.take ((n:Int)+0-16).toNat (l++x))++List.drop ((n:Int)+0-16).toNat (l++x)) (off (yb [] (slO (n+x.length) ((n:Int)+0-16).toNat) ty5.sz)) (List.take (min (yl key nonce aad (List.take ((n:Int)+0-16).toNat (xl key nonce (UInt32.ofInt 1) (List.take ((n:Int)+0-16).toNat (l++x))++List.drop ((n:Int)+0-16).toNat (l++x)))).length (n-((n:Int)+0-16).toNat)) (yl key nonce aad (List.take ((n:Int)+0-16).toNat (xl key nonce (UInt32.ofInt 1) (List.take ((n:Int)+0-16).toNat (l++x))++List.drop ((n:Int)+0-16).toNat (l++x))))))=yx w key nonce aad (l.take (n-16))++x:=by
       rw [hTl,show min 16 (n-((n:Int)+0-16).toNat)=16 by omega,List.take_of_length_le (Nat.le_of_eq hTl),hTg,hof,hX,zb8]
       unfold zw
       rw [za2,List.take_left' (by rw [xg,List.length_take];omega),←List.append_assoc (yi w key nonce _),List.drop_left' (by rw [List.length_append,xg,List.length_take,List.length_drop];omega)]
     have hAl:(yx w key nonce aad (l.take (n-16))).length=n:=by
       rw [zb8,List.length_append,za2,xg,List.length_take];omega
     have hSpl:(zw (xl key nonce (UInt32.ofInt 1) (List.take ((n:Int)+0-16).toNat (l++x))++List.drop ((n:Int)+0-16).toNat (l++x)) (off (yb [] (slO (n+x.length) ((n:Int)+0-16).toNat) ty5.sz)) (List.take (min (yl key nonce aad (List.take ((n:Int)+0-16).toNat (xl key nonce (UInt32.ofInt 1) (List.take ((n:Int)+0-16).toNat (l++x))++List.drop ((n:Int)+0-16).toNat (l++x)))).length (n-((n:Int)+0-16).toNat)) (yl key nonce aad (List.take ((n:Int)+0-16).toNat (xl key nonce (UInt32.ofInt 1) (List.take ((n:Int)+0-16).toNat (l++x))++List.drop ((n:Int)+0-16).toNat (l++x)))))).length=n+x.length:=by rw [hSp,List.length_append,hAl]
     have hps:n=n∧n=l.length∧0<n∧n≤100000∧n≤(zw (xl key nonce (UInt32.ofInt 1) (List.take ((n:Int)+0-16).toNat (l++x))++List.drop ((n:Int)+0-16).toNat (l++x)) (off (yb [] (slO (n+x.length) ((n:Int)+0-16).toNat) ty5.sz)) (List.take (min (yl key nonce aad (List.take ((n:Int)+0-16).toNat (xl key nonce (UInt32.ofInt 1) (List.take ((n:Int)+0-16).toNat (l++x))++List.drop ((n:Int)+0-16).toNat (l++x)))).length (n-((n:Int)+0-16).toNat)) (yl key nonce aad (List.take ((n:Int)+0-16).toNat (xl key nonce (UInt32.ofInt 1) (List.take ((n:Int)+0-16).toNat (l++x))++List.drop ((n:Int)+0-16).toNat (l++x)))))).length∧n≤n+x.length:=⟨rfl,hnl,by omega,by omega,by omega,by omega⟩
     have hpj:n=l.length∧0<n∧n≤100000:=⟨hnl,by omega,by omega⟩
     refine za ?_
     refine yv (hp':= [.mk t [.arr8 m (yx w key nonce aad (l.take (n-16)))]]) [0] h ?_
     repeat ((conv=>whnf);refine zb ?_)
     conv=>whnf
     exact zx (congrArg (fun y=>SV.agg [SV.arr8 m y]) (by rw [hSp];exact List.take_left' hAl))
    ·repeat ((conv=>whnf);first|refine zo ?_|refine zf ?_|refine zg ?_|refine zb ?_|refine zr (by first|exact hd|(rw [hd];rfl)) ?_|refine zi (by first|exact hd|(rw [hd];rfl)) ?_|refine zj (by first|exact hd|(rw [hd];rfl)) ?_)
     conv=>whnf
     refine yh fun x=>?_
     have hRl:(l++x).length=n+x.length:=by rw [List.length_append,←hnl]
     have hT1:List.take ((n:Int)+0-16).toNat (l++x)=l.take (n-16):=by
       rw [hnn,List.take_append_of_le_length (by omega)]
     have hT3:List.drop ((n:Int)+0-16).toNat (l++x)=l.drop (n-16)++x:=by
       rw [hnn,List.drop_append_of_le_length (by omega)]
     have hStr:yi w key nonce=zeb key nonce:=by funext b;unfold yi;rw [if_neg h4]
     have hX:(gst (gW key) (gR key) nonce 2 (List.take ((n:Int)+0-16).toNat (l++x))++List.drop ((n:Int)+0-16).toNat (l++x))=yi w key nonce (l.take (n-16))++(l.drop (n-16)++x):=by
       rw [hT1,hT3,hStr];unfold zeb;rfl
     have hXl:(gst (gW key) (gR key) nonce 2 (List.take ((n:Int)+0-16).toNat (l++x))++List.drop ((n:Int)+0-16).toNat (l++x)).length=n+x.length:=by
       rw [hX,List.length_append,List.length_append,xg,List.length_take,List.length_drop]
       omega
     have hof:(off (yb [] (slO (n+x.length) ((n:Int)+0-16).toNat) ty5.sz))=n-16:=by rw [hnn,zy,yy (by omega)];show 0+(n-16)*1=_;omega
     have hpo:(off (yb [] (slO (n+x.length) ((n:Int)+0-16).toNat) ty5.sz))+(n-((n:Int)+0-16).toNat)≤(gst (gW key) (gR key) nonce 2 (List.take ((n:Int)+0-16).toNat (l++x))++List.drop ((n:Int)+0-16).toNat (l++x)).length:=by rw [hof,hXl,hnn];omega
     have hA1:List.take ((n:Int)+0-16).toNat (gst (gW key) (gR key) nonce 2 (List.take ((n:Int)+0-16).toNat (l++x))++List.drop ((n:Int)+0-16).toNat (l++x))=yi w key nonce (l.take (n-16)):=by
       rw [hX];exact List.take_left' (by rw [xg,List.length_take,hnn];omega)
     have hTg:(gtg (gW key) (gR key) ((gH (gW key) (gR key)).1,(gH (gW key) (gR key)).2) nonce aad (List.take ((n:Int)+0-16).toNat (gst (gW key) (gR key) nonce 2 (List.take ((n:Int)+0-16).toNat (l++x))++List.drop ((n:Int)+0-16).toNat (l++x))))=xe w key nonce aad (yi w key nonce (l.take (n-16))):=by
       rw [hA1];unfold xe;rw [if_neg h4];unfold ze2;rfl
     have hTl:(gtg (gW key) (gR key) ((gH (gW key) (gR key)).1,(gH (gW key) (gR key)).2) nonce aad (List.take ((n:Int)+0-16).toNat (gst (gW key) (gR key) nonce 2 (List.take ((n:Int)+0-16).toNat (l++x))++List.drop ((n:Int)+0-16).toNat (l++x)))).length=16:=by rw [hTg,za2]
     have hWl:=zq5 (key:=key) (by omega)
     have hR7:gR key=key.length/ 4+7:=by unfold gR;rfl
     have hpx:box=box∧nonce.length=12∧1≤gR key∧gR key≤100∧16*gR key≤(gW key).length∧((n:Int)+0-16).toNat≤(l++x).length∧((n:Int)+0-16).toNat≤n+x.length∧((n:Int)+0-16).toNat≤9223372036854775807:=⟨rfl,h1,by omega,by omega,by omega,by omega,by omega,by omega⟩
     have hpt:box=box∧nonce.length=12∧1≤gR key∧gR key≤100∧16*gR key≤(gW key).length∧((n:Int)+0-16).toNat≤(gst (gW key) (gR key) nonce 2 (List.take ((n:Int)+0-16).toNat (l++x))++List.drop ((n:Int)+0-16).toNat (l++x)).length∧((n:Int)+0-16).toNat≤n+x.length∧aad.length≤65536∧((n:Int)+0-16).toNat≤70000:=⟨rfl,h1,by omega,by omega,by omega,by omega,by omega,h2,by omega⟩
     have hSp:(zw (gst (gW key) (gR key) nonce 2 (List.take ((n:Int)+0-16).toNat (l++x))++List.drop ((n:Int)+0-16).toNat (l++x)) (off (yb [] (slO (n+x.length) ((n:Int)+0-16).toNat) ty5.sz)) (List.take (min (gtg (gW key) (gR key) ((gH (gW key) (gR key)).1,(gH (gW key) (gR key)).2) nonce aad (List.take ((n:Int)+0-16).toNat (gst (gW key) (gR key) nonce 2 (List.take ((n:Int)+0-16).toNat (l++x))++List.drop ((n:Int)+0-16).toNat (l++x)))).length (n-((n:Int)+0-16).toNat)) (gtg (gW key) (gR key) ((gH (gW key) (gR key)).1,(gH (gW key) (gR key)).2) nonce aad (List.take ((n:Int)+0-16).toNat (gst (gW key) (gR key) nonce 2 (List.take ((n:Int)+0-16).toNat (l++x))++List.drop ((n:Int)+0-16).toNat (l++x))))))=yx w key nonce aad (l.take (n-16))++x:=by
       rw [hTl,show min 16 (n-((n:Int)+0-16).toNat)=16 by omega,List.take_of_length_le (Nat.le_of_eq hTl),hTg,hof,hX,zb8]
       unfold zw
       rw [za2,List.take_left' (by rw [xg,List.length_take];omega),←List.append_assoc (yi w key nonce _),List.drop_left' (by rw [List.length_append,xg,List.length_take,List.length_drop];omega)]
     have hAl:(yx w key nonce aad (l.take (n-16))).length=n:=by
       rw [zb8,List.length_append,za2,xg,List.length_take];omega
     have hSpl:(zw (gst (gW key) (gR key) nonce 2 (List.take ((n:Int)+0-16).toNat (l++x))++List.drop ((n:Int)+0-16).toNat (l++x)) (off (yb [] (slO (n+x.length) ((n:Int)+0-16).toNat) ty5.sz)) (List.take (min (gtg (gW key) (gR key) ((gH (gW key) (gR key)).1,(gH (gW key) (gR key)).2) nonce aad (List.take ((n:Int)+0-16).toNat (gst (gW key) (gR key) nonce 2 (List.take ((n:Int)+0-16).toNat (l++x))++List.drop ((n:Int)+0-16).toNat (l++x)))).length (n-((n:Int)+0-16).toNat)) (gtg (gW key) (gR key) ((gH (gW key) (gR key)).1,(gH (gW key) (gR key)).2) nonce aad (List.take ((n:Int)+0-16).toNat (gst (gW key) (gR key) nonce 2 (List.take ((n:Int)+0-16).toNat (l++x))++List.drop ((n:Int)+0-16).toNat (l++x)))))).length=n+x.length:=by rw [hSp,List.length_append,hAl]
     have hps:n=n∧n=l.length∧0<n∧n≤100000∧n≤(zw (gst (gW key) (gR key) nonce 2 (List.take ((n:Int)+0-16).toNat (l++x))++List.drop ((n:Int)+0-16).toNat (l++x)) (off (yb [] (slO (n+x.length) ((n:Int)+0-16).toNat) ty5.sz)) (List.take (min (gtg (gW key) (gR key) ((gH (gW key) (gR key)).1,(gH (gW key) (gR key)).2) nonce aad (List.take ((n:Int)+0-16).toNat (gst (gW key) (gR key) nonce 2 (List.take ((n:Int)+0-16).toNat (l++x))++List.drop ((n:Int)+0-16).toNat (l++x)))).length (n-((n:Int)+0-16).toNat)) (gtg (gW key) (gR key) ((gH (gW key) (gR key)).1,(gH (gW key) (gR key)).2) nonce aad (List.take ((n:Int)+0-16).toNat (gst (gW key) (gR key) nonce 2 (List.take ((n:Int)+0-16).toNat (l++x))++List.drop ((n:Int)+0-16).toNat (l++x)))))).length∧n≤n+x.length:=⟨rfl,hnl,by omega,by omega,by omega,by omega⟩
     have hpj:n=l.length∧0<n∧n≤100000:=⟨hnl,by omega,by omega⟩
     refine za ?_
     refine yv (hp':= [.mk t [.arr8 m (yx w key nonce aad (l.take (n-16)))]]) [0] h ?_
     repeat ((conv=>whnf);refine zb ?_)
     conv=>whnf
     exact zx (congrArg (fun y=>SV.agg [SV.arr8 m y]) (by rw [hSp];exact List.take_left' hAl))
   ·exact h.elim
end Go.Sym.Z
