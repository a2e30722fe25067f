/-
  Contracts of functions of the program, each said of symbolic values, and plain laws; no condition beyond each statement's own.
-/
import Derived.Test.YtmmpgjcpielefaaGreatG41
set_option linter.unusedSimpArgs false
set_option linter.unusedVariables false
namespace Go.Sym.Z
open Go Go.Proofs.Tryz Go.Sym.Lp Go.Sym.Cha Go.Sym.Sha Go.Sym.Hk Go.Sym.Gcm
set_option maxRecDepth 100000
def pl5:List (Nat×List PStep):= []
attribute [local irreducible] zaq exF kyF ivF y4 zas y5 inL ncF lnz iA hA hN hK yw za0 hO hP hR hT iK yd hdF h5F
set_option maxHeartbeats 8000000 in
theorem ztn (W:World) (which more:Int):
    zs0 (z7o f5.ntmps z23 zmt W []) pl5 (zk9 f5) f5.results.toList [.int which,.int more] [] (fun r _=>r= .bool true):=by
  have b1:=Go.Sym.Ib.ibits_and (a:=more) (m:=7) (by decide) (by decide)
  have hu:(UInt64.ofInt which%UInt64.ofNat 3).toNat<3:=by rw [UInt64.toNat_mod];exact Nat.mod_lt _ (by decide)
  have hpw:(UInt64.ofInt which%UInt64.ofNat 3).toNat<9223372036854775808:=by omega
  refine za ?_
  generalize (UInt64.ofInt which%UInt64.ofNat 3).toNat=u at*
  have hsu:su (4865+(u:Int)):=by unfold su;omega
  have dsu:decide (su (4865+(u:Int)))=true:=decide_eq_true hsu
  generalize 4865+(u:Int)=w at*
  repeat ((conv=>whnf);first|refine zu ?_|refine zi ?_|refine zj ?_|refine zb ?_|refine zw (by first|exact dsu) ?_|refine zo (by first|exact dsu) ?_|refine zn (by first|exact dsu) ?_)
  conv=>whnf
  generalize zal BinOp.and more 7=y at*
  obtain ⟨N,hNy⟩: ∃N:Nat,16382+y=(N:Int):=⟨(16382+y).toNat,by omega⟩
  have hNN:(16382+y).toNat=N:=by omega
  rw [hNN]
  obtain ⟨inn,hinn⟩: ∃inn:List UInt8,inn=List.replicate N 0++ [23]:=⟨_,rfl⟩
  have hIn:List.take N (List.drop (off []) (List.replicate N (0:UInt8)))++ [23]=inn:=by
    show List.take N (List.replicate N (0:UInt8))++ [23]=_
    rw [List.take_of_length_le (by rw [List.length_replicate];exact Nat.le_refl _),hinn]
  have hil:inn.length=N+1:=by rw [hinn,List.length_append,List.length_replicate];rfl
  have g1:lnz inn inn.length=N+1:=by
    have:=ztm (A:=List.replicate N 0) (k:=23) (by decide)
    rw [←hinn,List.length_replicate] at this
    exact this
  have g2:iK inn=23:=by
    unfold iK
    rw [g1,hinn,Nat.add_sub_cancel,List.getD_eq_getElem?_getD,List.getElem?_append_right (by rw [List.length_replicate];exact Nat.le_refl _),List.length_replicate,Nat.sub_self];rfl
  have g3:(inn.take (lnz inn inn.length-1)).length=N:=by rw [g1,List.length_take,hil];omega
  rw [hIn]
  have hH:List.take 5 (List.drop (off []) ((((((List.replicate 5 0).set (off [(0,ty5.sz)]) (UInt8.ofNat 23)).set (off [(1,ty5.sz)]) (UInt8.ofNat 3)).set (off [(2,ty5.sz)]) (UInt8.ofNat 3)).set (off [(3,ty5.sz)]) (UInt8.ofInt (((inn.length:Int)+16)/ 2^(UInt64.ofNat 8).toNat))).set (off [(4,ty5.sz)]) (UInt8.ofInt ((inn.length:Int)+16))))=h5F 3 3 ((inn.length:Int)+16):=by unfold h5F;rfl
  rw [hH]
  have hkl:=zl9 w [107]
  have hivl:=zmi w [107]
  have h5l:(h5F 3 3 ((inn.length:Int)+16)).length=5:=by unfold h5F;rfl
  have hky0:zd2 w (kyF w [107]) (ivF w [107]) 0:=⟨hsu,hkl,hivl,by decide,by decide⟩
  have dsl:decide (zeg w (kyF w [107]).length∧(ivF w [107]).length=12∧(h5F 3 3 ((inn.length:Int)+16)).length≤65536∧(inn.length:Int)≤65536)=true:=decide_eq_true ⟨zhb hky0,hivl,by omega,by omega⟩
  have hsl:(y4 w (kyF w [107]) (ivF w [107]) (h5F 3 3 ((inn.length:Int)+16)) inn).length=inn.length+16:=zbx _ _ _ _ _
  obtain ⟨X,hX⟩: ∃X,X= []++(h5F 3 3 ((inn.length:Int)+16)++y4 w (kyF w [107]) (ivF w [107]) (h5F 3 3 ((inn.length:Int)+16)) inn):=⟨_,rfl⟩
  have hX':X=h5F 3 3 ((inn.length:Int)+16)++y4 w (kyF w [107]) (ncF (ivF w [107]) 0) (h5F 3 3 ((inn.length:Int)+16)) inn:=by rw [hX,yao hivl];rfl
  obtain ⟨hXl,hXA,hXK,hXN,hXO,hXP,hXR⟩:=z37 3 3 inn (by omega) hX'
  have hpp:(0:Nat)+(h5F 3 3 ((inn.length:Int)+16)++y4 w (kyF w [107]) (ivF w [107]) (h5F 3 3 ((inn.length:Int)+16)) inn).length<9223372036854775808:=by rw [List.length_append];omega
  repeat ((conv=>whnf);first|refine zu ?_|refine zi ?_|refine zj ?_|refine zb ?_|refine zw (by first|exact dsl|(rw [dsl];rfl)) ?_|refine zo (by first|exact dsl|(rw [dsl];rfl)) ?_|refine zn (by first|exact dsl|(rw [dsl];rfl)) ?_)
  conv=>whnf
  rw [←hX]
  have hpn:zd2 w (kyF w [107]) (ivF w [107]) 0∧X.length<9223372036854775808:=⟨hky0,by omega⟩
  have d1:decide (X.length<5)=false:=decide_eq_false (by omega)
  have d2:decide (hA X true= -1)=true:=decide_eq_true hXA
  have d3:decide ((X.length:Int)<5+hN X)=false:=decide_eq_false (by omega)
  have d4:decide (hK X=20)=false:=decide_eq_false (by omega)
  have d5:decide (hO w (kyF w [107]) (ivF w [107]) 0 X)=true:=decide_eq_true hXO
  repeat ((conv=>whnf);first|refine zu ?_|refine zi ?_|refine zj ?_|refine zb ?_|refine zw (by first|exact d1|exact d2|exact d3|exact d4|exact d5) ?_|refine zo (by first|exact d1|exact d2|exact d3|exact d4|exact d5) ?_|refine zn (by first|exact d1|exact d2|exact d3|exact d4|exact d5) ?_)
  conv=>whnf
  rw [hXP]
  by_cases hbig:16384<N
  ·have hiA:iA inn=22:=by unfold iA;rw [if_pos (by omega)]
   have d6:decide (iA inn= -1)=false:=decide_eq_false (by omega)
   repeat ((conv=>whnf);first|refine zu ?_|refine zi ?_|refine zj ?_|refine zb ?_|refine zw (by first|exact d6) ?_|refine zo (by first|exact d6) ?_|refine zn (by first|exact d6) ?_)
   conv=>whnf
   rw [hiA]
   refine za ?_
   exact ze (hp':= []) [] rfl
  ·have hiA:iA inn= -1:=by rw [yaa (by omega),if_neg (by omega),if_pos (by omega)]
   have d6:decide (iA inn= -1)=true:=decide_eq_true hiA
   have g3':(((inn.take (lnz inn inn.length-1)).length:Nat):Int)=(N:Int):=by rw [g3]
   repeat ((conv=>whnf);first|refine zu ?_|refine zi ?_|refine zj ?_|refine zb ?_|refine zw (by first|exact d6) ?_|refine zo (by first|exact d6) ?_|refine zn (by first|exact d6) ?_)
   conv=>whnf
   refine yv (hp':= []) [] rfl ?_
   conv=>whnf
   exact zh (congrArg SV.bool (decide_eq_true (by omega)))
theorem zq8 (W:World) (which:Int) (_: -9223372036854775808≤which∧which≤9223372036854775807) (more:Int) (_: -9223372036854775808≤more∧more≤9223372036854775807):
    zs0 (z7o f5.ntmps z23 zmt W []) pl5 (zk9 f5) f5.results.toList [.int which,.int more] [] (fun r _=>r= .bool true):=
  ztn W which more
end Go.Sym.Z
