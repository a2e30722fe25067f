/-
  Contracts of functions of the program, each said of symbolic values, and plain laws; no condition beyond each statement's own.
-/
import Derived.Test.YtmmpgjcpielefaaG15
set_option linter.unusedSimpArgs false
set_option linter.unusedVariables false
namespace Go.Sym.A
open Go Go.Proofs.Try Go.Sym.Lp Go.Sym.Cha Go.Sym.Sha Go.Sym.Hk Go.Sym.Gcm Go.Sym.Aes
set_option maxRecDepth 100000
def z9e:List (Nat×List PStep):= []
def zhd:Spec:=fun args hp K=>match args,hp with
  | [.int x],[]=>Pre (0≤x∧x≤6) (K (.str [UInt8.ofInt (48+x)]) [])
  |_,_=>False
set_option maxHeartbeats 1000000 in
theorem zwh:zp prog 33 zhd:=by
  refine zo yi zk rfl func33 rfl call33 (D:=z9e) ?_ ?_
  ·intro args hp K h
   unfold zhd at h
   split at h
   ·exact Nat.le_of_ble_eq_true rfl
   ·exact h.elim
  ·intro args hp K h
   unfold zhd at h
   split at h
   ·rename_i x
    obtain ⟨⟨h0,h1⟩,h⟩:=zl h
    have ten:x=0∨x=1∨x=2∨x=3∨x=4∨x=5∨x=6:=by omega
    have h2:=h
    clear h
    rcases ten with e|e|e|e|e|e|e
    ·subst e
     refine wk ?_
     refine zt (Option (List UInt8)) (fun z=>match z with
       |none=>⟨[(0,.int 0),(3,.u64 (UInt64.ofInt 0)),(4,.nilsl)],[]⟩
       |some tl=>⟨[(0,.int 0),(3,.u64 (UInt64.ofInt 0/ 10)),(4,.sl 0 0 0 [] 1 (1+tl.length))],[.mk 5 [.arr8 (1+tl.length) ([UInt8.ofInt (48+0)]++tl)]]⟩) (fun z=>match z with
       |none=>1
       |some _=>0) none [] ?_ ?_
     ·repeat ((conv=>whnf);refine za ?_)
      exact trivial
     ·intro z
      rcases z with _|tl
      ·conv=>whnf
       repeat ((conv=>whnf);first|refine zn ?_|refine zf ?_|refine zg ?_|refine za ?_|refine zq (by first|decide) ?_|refine zi (by first|decide) ?_|refine zj (by first|decide) ?_)
       conv=>whnf
       refine yq fun tl=>?_
       repeat ((conv=>whnf);first|refine zn ?_|refine zf ?_|refine zg ?_|refine za ?_|refine zq (by first|decide) ?_|refine zi (by first|decide) ?_|refine zj (by first|decide) ?_)
       conv=>whnf
       refine ⟨some tl,[1],Nat.zero_lt_one,?_⟩
       repeat ((conv=>whnf);refine za ?_)
       exact trivial
      ·conv=>whnf
       have hp:off []+1≤([UInt8.ofInt (48+0)]++tl).length:=by rw [List.length_append];show 0+1≤1+_;omega
       repeat ((conv=>whnf);first|refine zn ?_|refine zf ?_|refine zg ?_|refine za ?_|refine zq (by first|decide) ?_|refine zi (by first|decide) ?_|refine zj (by first|decide) ?_)
       conv=>whnf
       conv=>whnf
       exact ze (hp':= []) [] h2
    ·subst e
     refine wk ?_
     refine zt (Option (List UInt8)) (fun z=>match z with
       |none=>⟨[(0,.int 1),(3,.u64 (UInt64.ofInt 1)),(4,.nilsl)],[]⟩
       |some tl=>⟨[(0,.int 1),(3,.u64 (UInt64.ofInt 1/ 10)),(4,.sl 0 0 0 [] 1 (1+tl.length))],[.mk 5 [.arr8 (1+tl.length) ([UInt8.ofInt (48+1)]++tl)]]⟩) (fun z=>match z with
       |none=>1
       |some _=>0) none [] ?_ ?_
     ·repeat ((conv=>whnf);refine za ?_)
      exact trivial
     ·intro z
      rcases z with _|tl
      ·conv=>whnf
       repeat ((conv=>whnf);first|refine zn ?_|refine zf ?_|refine zg ?_|refine za ?_|refine zq (by first|decide) ?_|refine zi (by first|decide) ?_|refine zj (by first|decide) ?_)
       conv=>whnf
       refine yq fun tl=>?_
       repeat ((conv=>whnf);first|refine zn ?_|refine zf ?_|refine zg ?_|refine za ?_|refine zq (by first|decide) ?_|refine zi (by first|decide) ?_|refine zj (by first|decide) ?_)
       conv=>whnf
       refine ⟨some tl,[1],Nat.zero_lt_one,?_⟩
       repeat ((conv=>whnf);refine za ?_)
       exact trivial
      ·conv=>whnf
       have hp:off []+1≤([UInt8.ofInt (48+1)]++tl).length:=by rw [List.length_append];show 0+1≤1+_;omega
       repeat ((conv=>whnf);first|refine zn ?_|refine zf ?_|refine zg ?_|refine za ?_|refine zq (by first|decide) ?_|refine zi (by first|decide) ?_|refine zj (by first|decide) ?_)
       conv=>whnf
       conv=>whnf
       exact ze (hp':= []) [] h2
    ·subst e
     refine wk ?_
     refine zt (Option (List UInt8)) (fun z=>match z with
       |none=>⟨[(0,.int 2),(3,.u64 (UInt64.ofInt 2)),(4,.nilsl)],[]⟩
       |some tl=>⟨[(0,.int 2),(3,.u64 (UInt64.ofInt 2/ 10)),(4,.sl 0 0 0 [] 1 (1+tl.length))],[.mk 5 [.arr8 (1+tl.length) ([UInt8.ofInt (48+2)]++tl)]]⟩) (fun z=>match z with
       |none=>1
       |some _=>0) none [] ?_ ?_
     ·repeat ((conv=>whnf);refine za ?_)
      exact trivial
     ·intro z
      rcases z with _|tl
      ·conv=>whnf
       repeat ((conv=>whnf);first|refine zn ?_|refine zf ?_|refine zg ?_|refine za ?_|refine zq (by first|decide) ?_|refine zi (by first|decide) ?_|refine zj (by first|decide) ?_)
       conv=>whnf
       refine yq fun tl=>?_
       repeat ((conv=>whnf);first|refine zn ?_|refine zf ?_|refine zg ?_|refine za ?_|refine zq (by first|decide) ?_|refine zi (by first|decide) ?_|refine zj (by first|decide) ?_)
       conv=>whnf
       refine ⟨some tl,[1],Nat.zero_lt_one,?_⟩
       repeat ((conv=>whnf);refine za ?_)
       exact trivial
      ·conv=>whnf
       have hp:off []+1≤([UInt8.ofInt (48+2)]++tl).length:=by rw [List.length_append];show 0+1≤1+_;omega
       repeat ((conv=>whnf);first|refine zn ?_|refine zf ?_|refine zg ?_|refine za ?_|refine zq (by first|decide) ?_|refine zi (by first|decide) ?_|refine zj (by first|decide) ?_)
       conv=>whnf
       conv=>whnf
       exact ze (hp':= []) [] h2
    ·subst e
     refine wk ?_
     refine zt (Option (List UInt8)) (fun z=>match z with
       |none=>⟨[(0,.int 3),(3,.u64 (UInt64.ofInt 3)),(4,.nilsl)],[]⟩
       |some tl=>⟨[(0,.int 3),(3,.u64 (UInt64.ofInt 3/ 10)),(4,.sl 0 0 0 [] 1 (1+tl.length))],[.mk 5 [.arr8 (1+tl.length) ([UInt8.ofInt (48+3)]++tl)]]⟩) (fun z=>match z with
       |none=>1
       |some _=>0) none [] ?_ ?_
     ·repeat ((conv=>whnf);refine za ?_)
      exact trivial
     ·intro z
      rcases z with _|tl
      ·conv=>whnf
       repeat ((conv=>whnf);first|refine zn ?_|refine zf ?_|refine zg ?_|refine za ?_|refine zq (by first|decide) ?_|refine zi (by first|decide) ?_|refine zj (by first|decide) ?_)
       conv=>whnf
       refine yq fun tl=>?_
       repeat ((conv=>whnf);first|refine zn ?_|refine zf ?_|refine zg ?_|refine za ?_|refine zq (by first|decide) ?_|refine zi (by first|decide) ?_|refine zj (by first|decide) ?_)
       conv=>whnf
       refine ⟨some tl,[1],Nat.zero_lt_one,?_⟩
       repeat ((conv=>whnf);refine za ?_)
       exact trivial
      ·conv=>whnf
       have hp:off []+1≤([UInt8.ofInt (48+3)]++tl).length:=by rw [List.length_append];show 0+1≤1+_;omega
       repeat ((conv=>whnf);first|refine zn ?_|refine zf ?_|refine zg ?_|refine za ?_|refine zq (by first|decide) ?_|refine zi (by first|decide) ?_|refine zj (by first|decide) ?_)
       conv=>whnf
       conv=>whnf
       exact ze (hp':= []) [] h2
    ·subst e
     refine wk ?_
     refine zt (Option (List UInt8)) (fun z=>match z with
       |none=>⟨[(0,.int 4),(3,.u64 (UInt64.ofInt 4)),(4,.nilsl)],[]⟩
       |some tl=>⟨[(0,.int 4),(3,.u64 (UInt64.ofInt 4/ 10)),(4,.sl 0 0 0 [] 1 (1+tl.length))],[.mk 5 [.arr8 (1+tl.length) ([UInt8.ofInt (48+4)]++tl)]]⟩) (fun z=>match z with
       |none=>1
       |some _=>0) none [] ?_ ?_
     ·repeat ((conv=>whnf);refine za ?_)
      exact trivial
     ·intro z
      rcases z with _|tl
      ·conv=>whnf
       repeat ((conv=>whnf);first|refine zn ?_|refine zf ?_|refine zg ?_|refine za ?_|refine zq (by first|decide) ?_|refine zi (by first|decide) ?_|refine zj (by first|decide) ?_)
       conv=>whnf
       refine yq fun tl=>?_
       repeat ((conv=>whnf);first|refine zn ?_|refine zf ?_|refine zg ?_|refine za ?_|refine zq (by first|decide) ?_|refine zi (by first|decide) ?_|refine zj (by first|decide) ?_)
       conv=>whnf
       refine ⟨some tl,[1],Nat.zero_lt_one,?_⟩
       repeat ((conv=>whnf);refine za ?_)
       exact trivial
      ·conv=>whnf
       have hp:off []+1≤([UInt8.ofInt (48+4)]++tl).length:=by rw [List.length_append];show 0+1≤1+_;omega
       repeat ((conv=>whnf);first|refine zn ?_|refine zf ?_|refine zg ?_|refine za ?_|refine zq (by first|decide) ?_|refine zi (by first|decide) ?_|refine zj (by first|decide) ?_)
       conv=>whnf
       conv=>whnf
       exact ze (hp':= []) [] h2
    ·subst e
     refine wk ?_
     refine zt (Option (List UInt8)) (fun z=>match z with
       |none=>⟨[(0,.int 5),(3,.u64 (UInt64.ofInt 5)),(4,.nilsl)],[]⟩
       |some tl=>⟨[(0,.int 5),(3,.u64 (UInt64.ofInt 5/ 10)),(4,.sl 0 0 0 [] 1 (1+tl.length))],[.mk 5 [.arr8 (1+tl.length) ([UInt8.ofInt (48+5)]++tl)]]⟩) (fun z=>match z with
       |none=>1
       |some _=>0) none [] ?_ ?_
     ·repeat ((conv=>whnf);refine za ?_)
      exact trivial
     ·intro z
      rcases z with _|tl
      ·conv=>whnf
       repeat ((conv=>whnf);first|refine zn ?_|refine zf ?_|refine zg ?_|refine za ?_|refine zq (by first|decide) ?_|refine zi (by first|decide) ?_|refine zj (by first|decide) ?_)
       conv=>whnf
       refine yq fun tl=>?_
       repeat ((conv=>whnf);first|refine zn ?_|refine zf ?_|refine zg ?_|refine za ?_|refine zq (by first|decide) ?_|refine zi (by first|decide) ?_|refine zj (by first|decide) ?_)
       conv=>whnf
       refine ⟨some tl,[1],Nat.zero_lt_one,?_⟩
       repeat ((conv=>whnf);refine za ?_)
       exact trivial
      ·conv=>whnf
       have hp:off []+1≤([UInt8.ofInt (48+5)]++tl).length:=by rw [List.length_append];show 0+1≤1+_;omega
       repeat ((conv=>whnf);first|refine zn ?_|refine zf ?_|refine zg ?_|refine za ?_|refine zq (by first|decide) ?_|refine zi (by first|decide) ?_|refine zj (by first|decide) ?_)
       conv=>whnf
       conv=>whnf
       exact ze (hp':= []) [] h2
    ·subst e
     refine wk ?_
     refine zt (Option (List UInt8)) (fun z=>match z with
       |none=>⟨[(0,.int 6),(3,.u64 (UInt64.ofInt 6)),(4,.nilsl)],[]⟩
       |some tl=>⟨[(0,.int 6),(3,.u64 (UInt64.ofInt 6/ 10)),(4,.sl 0 0 0 [] 1 (1+tl.length))],[.mk 5 [.arr8 (1+tl.length) ([UInt8.ofInt (48+6)]++tl)]]⟩) (fun z=>match z with
       |none=>1
       |some _=>0) none [] ?_ ?_
     ·repeat ((conv=>whnf);refine za ?_)
      exact trivial
     ·intro z
      rcases z with _|tl
      ·conv=>whnf
       repeat ((conv=>whnf);first|refine zn ?_|refine zf ?_|refine zg ?_|refine za ?_|refine zq (by first|decide) ?_|refine zi (by first|decide) ?_|refine zj (by first|decide) ?_)
       conv=>whnf
       refine yq fun tl=>?_
       repeat ((conv=>whnf);first|refine zn ?_|refine zf ?_|refine zg ?_|refine za ?_|refine zq (by first|decide) ?_|refine zi (by first|decide) ?_|refine zj (by first|decide) ?_)
       conv=>whnf
       refine ⟨some tl,[1],Nat.zero_lt_one,?_⟩
       repeat ((conv=>whnf);refine za ?_)
       exact trivial
      ·conv=>whnf
       have hp:off []+1≤([UInt8.ofInt (48+6)]++tl).length:=by rw [List.length_append];show 0+1≤1+_;omega
       repeat ((conv=>whnf);first|refine zn ?_|refine zf ?_|refine zg ?_|refine za ?_|refine zq (by first|decide) ?_|refine zi (by first|decide) ?_|refine zj (by first|decide) ?_)
       conv=>whnf
       conv=>whnf
       exact ze (hp':= []) [] h2
   ·exact h.elim
def pl9:List (Nat×List PStep):= [(15,[⟨0,[]⟩,⟨1,[]⟩,⟨2,[]⟩,⟨3,[]⟩,⟨4,[]⟩,⟨5,[]⟩,⟨6,[]⟩,⟨7,[]⟩,⟨8,[]⟩,⟨9,[7,8]⟩,⟨10,[7,8]⟩,⟨11,[]⟩,⟨12,[]⟩,⟨13,[]⟩,⟨14,[]⟩,⟨16,[14]⟩,⟨17,[14]⟩,⟨15,[16,17]⟩,⟨18,[]⟩,⟨19,[]⟩,⟨20,[]⟩,⟨21,[]⟩,⟨22,[]⟩,⟨23,[21,22]⟩,⟨24,[21,22]⟩,⟨25,[21,22]⟩,⟨26,[21,22]⟩,⟨27,[]⟩,⟨28,[]⟩])]
def zsv:List (Nat×Spec):=(33,zhd) ::zes
theorem zvl: ∀f S,yw zsv f=some S→zp prog f S:=zd zwh zfz
attribute [local irreducible] zb8 exF kyF ivF xl zap yv inL ncF lnz iA hA hN hK zy zaq hO hP hR hT iK z7
set_option maxHeartbeats 8000000 in
theorem zsu (W:World) (a:List UInt8) (many suite:Int) (hs:a.length≤140737488351232):
    zil (zq6 f9.ntmps zl3 zsv W []) pl9 (zbz f9) f9.results.toList [.str a,.int many,.int suite] [] (fun r _=>r= .bool true):=by
  have b1:=Go.Sym.Ib.ibits_and (a:=many) (m:=7) (by decide) (by decide)
  have hu:(UInt64.ofInt suite%UInt64.ofNat 3).toNat<3:=by rw [UInt64.toNat_mod];exact Nat.mod_lt _ (by decide)
  have hpw:(UInt64.ofInt suite%UInt64.ofNat 3).toNat<9223372036854775808:=by omega
  refine wk ?_
  generalize (UInt64.ofInt suite%UInt64.ofNat 3).toNat=u at*
  have hsu:su (4865+(u:Int)):=by unfold su;omega
  have dsu:decide (su (4865+(u:Int)))=true:=decide_eq_true hsu
  repeat ((conv=>whnf);first|refine zn ?_|refine zf ?_|refine zg ?_|refine za ?_|refine zq (by first|exact dsu) ?_|refine zi (by first|exact dsu) ?_|refine zj (by first|exact dsu) ?_)
  conv=>whnf
  obtain ⟨M,hM⟩: ∃M:Nat,ya .and many 7=(M:Int):=⟨(ya .and many 7).toNat,by omega⟩
  have hM7:M≤7:=by omega
  rw [hM]
  have hok: ∀i:Nat,i≤8→za7 (4865+(u:Int)) (kyF (4865+(u:Int)) a) (ivF (4865+(u:Int)) a) (i:Int):=fun i hi=>⟨hsu,zfy _ _,zf5 _ _,by omega,by omega⟩
  generalize 4865+(u:Int)=w at*
  refine zt (Ix (M)) (fun q=>⟨[(0,.str a),(7,.int w),(8,.ptr 0 0 0 []),(9,.int 0),(10,.ptr 1 0 0 []),(11,.int 0),(12,.int M),(13,.int q.i)],[.mk 88 [.int 0,.ptr 2 0 0 [],.nilptr,.str [],.int (-1)],.mk 88 [.int 0,.nilptr,.ptr 3 0 0 [],.str [],.int (-1)],.mk 130 [.int w,.str (kyF w a),.str (ivF w a),.int q.i],.mk 130 [.int w,.str (kyF w a),.str (ivF w a),.int q.i]]⟩) (fun q=>(M)-q.i) ⟨0,Nat.zero_le _⟩ [0,1,2,3] ?_ ?_
  ·repeat ((conv=>whnf);refine za ?_)
   exact trivial
  ·intro q
   have hi:=q.hi
   by_cases h4:q.i<M
   ·have hok0:=hok q.i (by omega)
    have hps:za7 w (kyF w a) (ivF w a) q.i∧(0:Int)≤0∧(0:Int)≤16384∧ [UInt8.ofInt (48+(q.i:Int))].length≤140737488351232:=⟨hok0,by decide,by decide,by show 1≤140737488351232;decide⟩
    have hsl:=zdi (p:=0) (w:=w) (key:=kyF w a) (iv:=ivF w a) (m:=(q.i:Int)) (kind:=23) (s:= [UInt8.ofInt (48+(q.i:Int))]) (by show 1≤16384;decide) (by decide)
    rw [show inL 0 (([UInt8.ofInt (48+(q.i:Int))]:List UInt8).length:Int)=2 from by show inL 0 1=2;decide+kernel] at hsl
    have hq:=zlg (p:=0) (w:=w) (key:=kyF w a) (iv:=ivF w a) (m:=(q.i:Int)) (kind:=23) (s:= [UInt8.ofInt (48+(q.i:Int))]) [] (by show 1≤16384;decide) (by decide)
    rw [List.append_nil] at hq
    obtain ⟨q1,q2,q3,q4,q5,q6,q7⟩:=hq
    obtain ⟨q8,q9,q10,q11⟩:=zpi (p:=0) (kind:=23) (s:= [UInt8.ofInt (48+(q.i:Int))]) (by show 1≤16384;decide) (by decide) (by decide)
    have d1:decide ((zy 0 w (kyF w a) (ivF w a) (q.i:Int) 23 [UInt8.ofInt (48+(q.i:Int))]).length<5)=false:=decide_eq_false (by omega)
    have d2:decide (hA (zy 0 w (kyF w a) (ivF w a) (q.i:Int) 23 [UInt8.ofInt (48+(q.i:Int))]) true= -1)=true:=decide_eq_true q2
    have d3:decide (((zy 0 w (kyF w a) (ivF w a) (q.i:Int) 23 [UInt8.ofInt (48+(q.i:Int))]).length:Int)<5+hN (zy 0 w (kyF w a) (ivF w a) (q.i:Int) 23 [UInt8.ofInt (48+(q.i:Int))]))=false:=decide_eq_false (by omega)
    have d4:decide (hK (zy 0 w (kyF w a) (ivF w a) (q.i:Int) 23 [UInt8.ofInt (48+(q.i:Int))])=20)=false:=decide_eq_false (by omega)
    have d5:decide (hO w (kyF w a) (ivF w a) (q.i:Int) (zy 0 w (kyF w a) (ivF w a) (q.i:Int) 23 [UInt8.ofInt (48+(q.i:Int))]))=true:=decide_eq_true q5
    have d6:decide (iA (hP w (kyF w a) (ivF w a) (q.i:Int) (zy 0 w (kyF w a) (ivF w a) (q.i:Int) 23 [UInt8.ofInt (48+(q.i:Int))]))= -1)=true:=decide_eq_true (by rw [q6];exact q10)
    have d7:(hP w (kyF w a) (ivF w a) (q.i:Int) (zy 0 w (kyF w a) (ivF w a) (q.i:Int) 23 [UInt8.ofInt (48+(q.i:Int))])).take (lnz (hP w (kyF w a) (ivF w a) (q.i:Int) (zy 0 w (kyF w a) (ivF w a) (q.i:Int) 23 [UInt8.ofInt (48+(q.i:Int))])) (hP w (kyF w a) (ivF w a) (q.i:Int) (zy 0 w (kyF w a) (ivF w a) (q.i:Int) 23 [UInt8.ofInt (48+(q.i:Int))])).length-1)= [UInt8.ofInt (48+(q.i:Int))]:=by rw [q6];exact q11
    have hpn:za7 w (kyF w a) (ivF w a) q.i∧([]++(zy 0 w (kyF w a) (ivF w a) (q.i:Int) 23 [UInt8.ofInt (48+(q.i:Int))])).length<9223372036854775808:=⟨hok0,by rw [List.nil_append];omega⟩
    have d8:decide (List.take (lnz (hP w (kyF w a) (ivF w a) (q.i:Int) ([]++(zy 0 w (kyF w a) (ivF w a) (q.i:Int) 23 [UInt8.ofInt (48+(q.i:Int))]))) (hP w (kyF w a) (ivF w a) (q.i:Int) ([]++(zy 0 w (kyF w a) (ivF w a) (q.i:Int) 23 [UInt8.ofInt (48+(q.i:Int))]))).length-1) (hP w (kyF w a) (ivF w a) (q.i:Int) ([]++(zy 0 w (kyF w a) (ivF w a) (q.i:Int) 23 [UInt8.ofInt (48+(q.i:Int))])))= [UInt8.ofInt (48+(q.i:Int))])=true:=decide_eq_true d7
    have hlen:(List.take (lnz (hP w (kyF w a) (ivF w a) (q.i:Int) ([]++(zy 0 w (kyF w a) (ivF w a) (q.i:Int) 23 [UInt8.ofInt (48+(q.i:Int))]))) (hP w (kyF w a) (ivF w a) (q.i:Int) ([]++(zy 0 w (kyF w a) (ivF w a) (q.i:Int) 23 [UInt8.ofInt (48+(q.i:Int))]))).length-1) (hP w (kyF w a) (ivF w a) (q.i:Int) ([]++(zy 0 w (kyF w a) (ivF w a) (q.i:Int) 23 [UInt8.ofInt (48+(q.i:Int))])))).length=1:=by rw [show List.take (lnz (hP w (kyF w a) (ivF w a) (q.i:Int) ([]++(zy 0 w (kyF w a) (ivF w a) (q.i:Int) 23 [UInt8.ofInt (48+(q.i:Int))]))) (hP w (kyF w a) (ivF w a) (q.i:Int) ([]++(zy 0 w (kyF w a) (ivF w a) (q.i:Int) 23 [UInt8.ofInt (48+(q.i:Int))]))).length-1) (hP w (kyF w a) (ivF w a) (q.i:Int) ([]++(zy 0 w (kyF w a) (ivF w a) (q.i:Int) 23 [UInt8.ofInt (48+(q.i:Int))])))= [UInt8.ofInt (48+(q.i:Int))] from d7];rfl
    have d9:decide (((zy 0 w (kyF w a) (ivF w a) (q.i:Int) 23 [UInt8.ofInt (48+(q.i:Int))]).length:Int)=22+((List.take (lnz (hP w (kyF w a) (ivF w a) (q.i:Int) ([]++(zy 0 w (kyF w a) (ivF w a) (q.i:Int) 23 [UInt8.ofInt (48+(q.i:Int))]))) (hP w (kyF w a) (ivF w a) (q.i:Int) ([]++(zy 0 w (kyF w a) (ivF w a) (q.i:Int) 23 [UInt8.ofInt (48+(q.i:Int))]))).length-1) (hP w (kyF w a) (ivF w a) (q.i:Int) ([]++(zy 0 w (kyF w a) (ivF w a) (q.i:Int) 23 [UInt8.ofInt (48+(q.i:Int))])))).length:Int))=true:=decide_eq_true (by rw [show List.take (lnz (hP w (kyF w a) (ivF w a) (q.i:Int) ([]++(zy 0 w (kyF w a) (ivF w a) (q.i:Int) 23 [UInt8.ofInt (48+(q.i:Int))]))) (hP w (kyF w a) (ivF w a) (q.i:Int) ([]++(zy 0 w (kyF w a) (ivF w a) (q.i:Int) 23 [UInt8.ofInt (48+(q.i:Int))]))).length-1) (hP w (kyF w a) (ivF w a) (q.i:Int) ([]++(zy 0 w (kyF w a) (ivF w a) (q.i:Int) 23 [UInt8.ofInt (48+(q.i:Int))])))= [UInt8.ofInt (48+(q.i:Int))] from d7,hsl];rfl)
    repeat ((conv=>whnf);first|refine zn ?_|refine zf ?_|refine zg ?_|refine za ?_|refine zq (by first|(rw [d8];rfl)|(rw [d9];rfl)) ?_|refine zi (by first|(rw [d8];rfl)|(rw [d9];rfl)) ?_|refine zj (by first|(rw [d8];rfl)|(rw [d9];rfl)) ?_)
    conv=>whnf
    refine ⟨⟨q.i+1,h4⟩,[0,1,2,3],by show (M)-(q.i+1)<(M)-q.i;omega,?_⟩
    repeat ((conv=>whnf);refine za ?_)
    conv=>whnf
    refine zh (congrArg (fun x=>SV.agg [.int 0,.nilptr,.ptr 3 0 0 [],.str x,.int (-1)]) (show hR ([]++(zy 0 w (kyF w a) (ivF w a) (q.i:Int) 23 [UInt8.ofInt (48+(q.i:Int))]))= [] from q7)) ?_
    repeat ((conv=>whnf);refine za ?_)
    exact trivial
   ·have hok0:=hok 0 (by omega)
    have hps:za7 w (kyF w a) (ivF w a) 0∧(0:Int)≤0∧(0:Int)≤16384∧([97,103,97,105,110]:List UInt8).length≤140737488351232:=⟨hok0,by decide,by decide,by decide⟩
    have hsl:=zdi (p:=0) (w:=w) (key:=kyF w a) (iv:=ivF w a) (m:=0) (kind:=23) (s:= [97,103,97,105,110]) (by show 5≤16384;decide) (by decide)
    rw [show inL 0 (([97,103,97,105,110]:List UInt8).length:Int)=6 from by show inL 0 5=6;decide+kernel] at hsl
    have hq:=zlg (p:=0) (w:=w) (key:=kyF w a) (iv:=ivF w a) (m:=0) (kind:=23) (s:= [97,103,97,105,110]) [] (by show 5≤16384;decide) (by decide)
    rw [List.append_nil] at hq
    obtain ⟨q1,q2,q3,q4,q5,q6,q7⟩:=hq
    obtain ⟨q8,q9,q10,q11⟩:=zpi (p:=0) (kind:=23) (s:= [97,103,97,105,110]) (by show 5≤16384;decide) (by decide) (by decide)
    have d1:decide ((zy 0 w (kyF w a) (ivF w a) 0 23 [97,103,97,105,110]).length<5)=false:=decide_eq_false (by omega)
    have d2:decide (hA (zy 0 w (kyF w a) (ivF w a) 0 23 [97,103,97,105,110]) true= -1)=true:=decide_eq_true q2
    have d3:decide (((zy 0 w (kyF w a) (ivF w a) 0 23 [97,103,97,105,110]).length:Int)<5+hN (zy 0 w (kyF w a) (ivF w a) 0 23 [97,103,97,105,110]))=false:=decide_eq_false (by omega)
    have d4:decide (hK (zy 0 w (kyF w a) (ivF w a) 0 23 [97,103,97,105,110])=20)=false:=decide_eq_false (by omega)
    have d5:decide (hO w (kyF w a) (ivF w a) 0 (zy 0 w (kyF w a) (ivF w a) 0 23 [97,103,97,105,110]))=true:=decide_eq_true q5
    have d6:decide (iA (hP w (kyF w a) (ivF w a) 0 (zy 0 w (kyF w a) (ivF w a) 0 23 [97,103,97,105,110]))= -1)=true:=decide_eq_true (by rw [q6];exact q10)
    have d7:(hP w (kyF w a) (ivF w a) 0 (zy 0 w (kyF w a) (ivF w a) 0 23 [97,103,97,105,110])).take (lnz (hP w (kyF w a) (ivF w a) 0 (zy 0 w (kyF w a) (ivF w a) 0 23 [97,103,97,105,110])) (hP w (kyF w a) (ivF w a) 0 (zy 0 w (kyF w a) (ivF w a) 0 23 [97,103,97,105,110])).length-1)= [97,103,97,105,110]:=by rw [q6];exact q11
    have hpn:za7 w (kyF w a) (ivF w a) 0∧([]++(zy 0 w (kyF w a) (ivF w a) 0 23 [97,103,97,105,110])).length<9223372036854775808:=⟨hok0,by rw [List.nil_append];omega⟩
    refine wk ?_
    refine yl (hp':= []) [] rfl ?_
    repeat ((conv=>whnf);refine za ?_)
    conv=>whnf
    refine zh (congrArg SV.bool (show decide (List.take (lnz (hP w (kyF w a) (ivF w a) 0 ([]++(zy 0 w (kyF w a) (ivF w a) 0 23 [97,103,97,105,110]))) (hP w (kyF w a) (ivF w a) 0 ([]++(zy 0 w (kyF w a) (ivF w a) 0 23 [97,103,97,105,110]))).length-1) (hP w (kyF w a) (ivF w a) 0 ([]++(zy 0 w (kyF w a) (ivF w a) 0 23 [97,103,97,105,110])))= [97,103,97,105,110])=true from decide_eq_true d7)) ?_
    repeat ((conv=>whnf);refine za ?_)
    exact trivial
theorem zq5 (W:World) (a:List UInt8) (hs:a.length≤140737488351232) (many:Int) (_: -9223372036854775808≤many∧many≤9223372036854775807) (suite:Int) (_: -9223372036854775808≤suite∧suite≤9223372036854775807):
    zil (zq6 f9.ntmps zl3 zsv W []) pl9 (zbz f9) f9.results.toList [.str a,.int many,.int suite] [] (fun r _=>r= .bool true):=zsu W a many suite hs
end Go.Sym.A
