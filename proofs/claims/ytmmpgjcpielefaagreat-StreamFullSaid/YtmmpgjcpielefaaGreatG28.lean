/-
  Contracts of functions of the program, each said of symbolic values, and plain laws; no condition beyond each statement's own.
-/
import Derived.Test.YtmmpgjcpielefaaGreatG27
import Derived.Test.YtmmpgjcpielefaaGreatG17
set_option linter.unusedSimpArgs false
set_option linter.unusedVariables false
namespace Go.Sym.Z
open Go Go.Proofs.Tryz Go.Sym.Lp Go.Sym.Gcm Go.Sym.Aes Go.Sym.Pol Go.Sym.Cha
set_option maxRecDepth 100000
attribute [local irreducible] za7 yr zgv ziu zgs xl xo yw gst gtg gW gR gH y0
def zsq:Spec:=fun args hp K=>match args,hp with
  | [.agg [.sl 0 0 0 [] n c,.nilsl]],[.mk t [.arr8 m l]]=>Pre (n=l.length∧0<n∧n≤100000)
      (x9 fun x:List UInt8=>K (.sl 1 0 0 [] n (n+x.length)) [.mk t [.arr8 m l],.mk 5 [.arr8 (n+x.length) (l++x)]])
  |_,_=>False
theorem z3j:zp prog 89 zsq:=by
  refine zl zax zg rfl func89 rfl call89 (D:=z71) ?_ ?_
  ·intro args hp K h
   unfold zsq at h
   split at h
   ·exact Nat.le_of_ble_eq_true rfl
   ·exact h.elim
  ·intro args hp K h
   unfold zsq at h
   split at h
   ·rename_i n c t m l
    obtain ⟨⟨ha,h0,h1⟩,h⟩:=zi h
    have hla:(List.take n (List.drop (off []) l)).length=n:=by rw [List.length_take,List.length_drop];show min n (l.length-0)=n;omega
    have hle:List.take n (List.drop (off []) l)=l:=List.take_of_length_le (by show (List.drop 0 l).length≤n;rw [List.drop_zero];omega)
    refine za ?_
    refine yf fun t1=>?_
    refine za ?_
    refine zv ⟨by omega,by rw [List.length_append],by show _+0≤_;omega⟩ ?_
    refine za ?_
    refine yf fun t2=>?_
    have h:=xj h t2
    refine za ?_
    rw [List.take_left' rfl,hle,List.length_nil,Nat.add_zero,List.append_nil,←ha]
    conv=>whnf
    exact zm [0,3] h
   ·exact h.elim
def zmi:Spec:=fun args hp K=>match args,hp with
  | [.agg [.sl 0 0 0 [] n c,.nilsl],.sl 1 0 0 [] N c2],[.mk t [.arr8 m l],.mk t2 [.arr8 M s]]=>Pre (N=n∧n=l.length∧0<n∧n≤100000∧n≤s.length∧n≤c2)
      (K (.tup []) [.mk t [.arr8 m (s.take n)],.mk t2 [.arr8 M s]])
  |_,_=>False
theorem zwf:zp prog 93 zmi:=by
  refine zl zax zg rfl func93 rfl call93 (D:=z9s) ?_ ?_
  ·intro args hp K h
   unfold zmi at h
   split at h
   ·exact Nat.le_of_ble_eq_true rfl
   ·exact h.elim
  ·intro args hp K h
   unfold zmi at h
   split at h
   ·rename_i n c N c2 t m l t2 M s
    obtain ⟨⟨hN,ha,h0,h1,hs,hc⟩,h'⟩:=zi h
    clear h
    subst hN
    have hl1:(List.take N (List.drop (off []) s)).length=N:=by rw [List.length_take,List.length_drop];show min N (s.length-0)=N;omega
    have hmn:(((min (List.take N (List.drop (off []) s)).length N:Nat):Int)).toNat=N:=by rw [hl1];omega
    have hsl:off (ya [] (slO c2 N) ty5.sz)+(N-N)≤s.length:=by
      rw [zw]
      show 0+slO c2 N*1+_≤_
      unfold slO;split<;>omega
    refine za ?_
    have hEq:zt l (off []) (List.take (min (List.take N (List.drop (off []) s)).length N) (List.take N (List.drop (off []) s)))=s.take N:=by
      rw [hl1,Nat.min_self]
      have e1:List.take N (List.take N (List.drop (off []) s))=s.take N:=by rw [List.take_take,Nat.min_self];rfl
      rw [e1]
      unfold zt
      have e2:(s.take N).length=N:=by rw [List.length_take];omega
      show List.take 0 l++s.take N++List.drop (0+(s.take N).length) l=s.take N
      rw [e2,List.take_zero,List.nil_append,Nat.zero_add,List.drop_eq_nil_of_le (by omega),List.append_nil]
    rw [hmn]
    refine za ?_
    refine yu (hp':= [.mk t [.arr8 m (s.take N)],.mk t2 [.arr8 M s]]) [0,1] h' ?_
    repeat ((conv=>whnf);refine zc ?_)
    conv=>whnf
    exact zu (congrArg (fun y=>SV.agg [SV.arr8 m y]) hEq)
   ·exact h.elim
def zmd:Spec:=fun args hp K=>match args,hp with
  | [.int w,.str key,.str nonce,.str aad,.sl 0 0 0 [] n c,.nilsl],[.mk t [.arr8 m l]]=>Pre (n=l.length∧16≤n∧znr w key nonce aad ((n:Int)+0-16))
      (K (.int 0) [.mk t [.arr8 m (y0 w key nonce aad (l.take (n-16)))]])
  |_,_=>False
set_option maxHeartbeats 4000000 in
theorem zxt:zp prog 66 zmd:=by
  refine zl zax (ze z18 (ze z3j (ze zj4 (ze zy3 (ze z17 (ze zwf zg)))))) rfl func66 rfl call66 (D:=ybh) ?_ ?_
  ·intro args hp K h
   unfold zmd at h
   split at h
   ·exact Nat.le_of_ble_eq_true rfl
   ·exact h.elim
  ·intro args hp K h
   unfold zmd at h
   split at h
   ·rename_i w key nonce aad n c t m l
    obtain ⟨⟨hnl,h16,h0⟩,h⟩:=zi h
    have hd:decide (zgt w key.length∧nonce.length=12∧aad.length≤65536∧(n:Int)+0-16≤65536)=true:=decide_eq_true (by unfold znr at h0;exact h0)
    unfold znr at h0
    obtain ⟨hk,h1,h2,h3⟩:=h0
    unfold zgt at hk
    have hnn:((n:Int)+0-16).toNat=n-16:=by omega
    have hpj:n=l.length∧0<n∧n≤100000:=⟨hnl,by omega,by omega⟩
    by_cases h4:w=4867
    ·repeat ((conv=>whnf);first|refine zy ?_|refine zk ?_|refine zj ?_|refine zc ?_|refine zv (by first|exact hd|(rw [hd];rfl)) ?_|refine zr (by first|exact hd|(rw [hd];rfl)) ?_|refine zq (by first|exact hd|(rw [hd];rfl)) ?_)
     conv=>whnf
     refine yf fun x=>?_
     have hRl:(l++x).length=n+x.length:=by rw [List.length_append,←hnl]
     have hT1:List.take ((n:Int)+0-16).toNat (l++x)=l.take (n-16):=by
       rw [hnn,List.take_append_of_le_length (by omega)]
     have hT3:List.drop ((n:Int)+0-16).toNat (l++x)=l.drop (n-16)++x:=by
       rw [hnn,List.drop_append_of_le_length (by omega)]
     have hStr:yw w key nonce=xl key nonce 1:=by funext b;unfold yw;rw [if_pos h4]
     have hX:(xl key nonce (UInt32.ofInt 1) (List.take ((n:Int)+0-16).toNat (l++x))++List.drop ((n:Int)+0-16).toNat (l++x))=yw w key nonce (l.take (n-16))++(l.drop (n-16)++x):=by
       rw [hT1,hT3,hStr];rfl
     have hXl:(xl key nonce (UInt32.ofInt 1) (List.take ((n:Int)+0-16).toNat (l++x))++List.drop ((n:Int)+0-16).toNat (l++x)).length=n+x.length:=by
       rw [hX,List.length_append,List.length_append,xw,List.length_take,List.length_drop]
       omega
     have hof:(off (ya [] (slO (n+x.length) ((n:Int)+0-16).toNat) ty5.sz))=n-16:=by rw [hnn,zw,yv (by omega)];show 0+(n-16)*1=_;omega
     have hpo:(off (ya [] (slO (n+x.length) ((n:Int)+0-16).toNat) ty5.sz))+(n-((n:Int)+0-16).toNat)≤(xl key nonce (UInt32.ofInt 1) (List.take ((n:Int)+0-16).toNat (l++x))++List.drop ((n:Int)+0-16).toNat (l++x)).length:=by rw [hof,hXl,hnn];omega
     have hA1:List.take ((n:Int)+0-16).toNat (xl key nonce (UInt32.ofInt 1) (List.take ((n:Int)+0-16).toNat (l++x))++List.drop ((n:Int)+0-16).toNat (l++x))=yw w key nonce (l.take (n-16)):=by
       rw [hX];exact List.take_left' (by rw [xw,List.length_take,hnn];omega)
     have hTg:(yr key nonce aad (List.take ((n:Int)+0-16).toNat (xl key nonce (UInt32.ofInt 1) (List.take ((n:Int)+0-16).toNat (l++x))++List.drop ((n:Int)+0-16).toNat (l++x))))=xo w key nonce aad (yw w key nonce (l.take (n-16))):=by
       rw [hA1];unfold xo;rw [if_pos h4]
     have hTl:(yr key nonce aad (List.take ((n:Int)+0-16).toNat (xl key nonce (UInt32.ofInt 1) (List.take ((n:Int)+0-16).toNat (l++x))++List.drop ((n:Int)+0-16).toNat (l++x)))).length=16:=by rw [hTg,zcb]
     have hpx:key.length=32∧nonce.length=12∧((n:Int)+0-16).toNat≤(l++x).length∧((n:Int)+0-16).toNat≤n+x.length∧((n:Int)+0-16).toNat≤9223372036854775807:=⟨by omega,h1,by omega,by omega,by omega⟩
     have hpt:key.length=32∧nonce.length=12∧aad.length≤65536∧((n:Int)+0-16).toNat≤65536∧((n:Int)+0-16).toNat≤(xl key nonce (UInt32.ofInt 1) (List.take ((n:Int)+0-16).toNat (l++x))++List.drop ((n:Int)+0-16).toNat (l++x)).length∧((n:Int)+0-16).toNat≤n+x.length:=⟨by omega,h1,h2,by omega,by omega,by omega⟩
     have hSp:(zt (xl key nonce (UInt32.ofInt 1) (List.take ((n:Int)+0-16).toNat (l++x))++List.drop ((n:Int)+0-16).toNat (l++x)) (off (ya [] (slO (n+x.length) ((n:Int)+0-16).toNat) ty5.sz)) (List.take (min (yr key nonce aad (List.take ((n:Int)+0-16).toNat (xl key nonce (UInt32.ofInt 1) (List.take ((n:Int)+0-16).toNat (l++x))++List.drop ((n:Int)+0-16).toNat (l++x)))).length (n-((n:Int)+0-16).toNat)) (yr key nonce aad (List.take ((n:Int)+0-16).toNat (xl key nonce (UInt32.ofInt 1) (List.take ((n:Int)+0-16).toNat (l++x))++List.drop ((n:Int)+0-16).toNat (l++x))))))=y0 w key nonce aad (l.take (n-16))++x:=by
       rw [hTl,show min 16 (n-((n:Int)+0-16).toNat)=16 by omega,List.take_of_length_le (Nat.le_of_eq hTl),hTg,hof,hX,zcc]
       unfold zt
       rw [zcb,List.take_left' (by rw [xw,List.length_take];omega),←List.append_assoc (yw w key nonce _),List.drop_left' (by rw [List.length_append,xw,List.length_take,List.length_drop];omega)]
     have hAl:(y0 w key nonce aad (l.take (n-16))).length=n:=by
       rw [zcc,List.length_append,zcb,xw,List.length_take];omega
     have hSpl:(zt (xl key nonce (UInt32.ofInt 1) (List.take ((n:Int)+0-16).toNat (l++x))++List.drop ((n:Int)+0-16).toNat (l++x)) (off (ya [] (slO (n+x.length) ((n:Int)+0-16).toNat) ty5.sz)) (List.take (min (yr key nonce aad (List.take ((n:Int)+0-16).toNat (xl key nonce (UInt32.ofInt 1) (List.take ((n:Int)+0-16).toNat (l++x))++List.drop ((n:Int)+0-16).toNat (l++x)))).length (n-((n:Int)+0-16).toNat)) (yr key nonce aad (List.take ((n:Int)+0-16).toNat (xl key nonce (UInt32.ofInt 1) (List.take ((n:Int)+0-16).toNat (l++x))++List.drop ((n:Int)+0-16).toNat (l++x)))))).length=n+x.length:=by rw [hSp,List.length_append,hAl]
     have hps:n=n∧n=l.length∧0<n∧n≤100000∧n≤(zt (xl key nonce (UInt32.ofInt 1) (List.take ((n:Int)+0-16).toNat (l++x))++List.drop ((n:Int)+0-16).toNat (l++x)) (off (ya [] (slO (n+x.length) ((n:Int)+0-16).toNat) ty5.sz)) (List.take (min (yr key nonce aad (List.take ((n:Int)+0-16).toNat (xl key nonce (UInt32.ofInt 1) (List.take ((n:Int)+0-16).toNat (l++x))++List.drop ((n:Int)+0-16).toNat (l++x)))).length (n-((n:Int)+0-16).toNat)) (yr key nonce aad (List.take ((n:Int)+0-16).toNat (xl key nonce (UInt32.ofInt 1) (List.take ((n:Int)+0-16).toNat (l++x))++List.drop ((n:Int)+0-16).toNat (l++x)))))).length∧n≤n+x.length:=⟨rfl,hnl,by omega,by omega,by omega,by omega⟩
     have hpj:n=l.length∧0<n∧n≤100000:=⟨hnl,by omega,by omega⟩
     refine za ?_
     refine yu (hp':= [.mk t [.arr8 m (y0 w key nonce aad (l.take (n-16)))]]) [0] h ?_
     repeat ((conv=>whnf);refine zc ?_)
     conv=>whnf
     exact zu (congrArg (fun y=>SV.agg [SV.arr8 m y]) (by rw [hSp];exact List.take_left' hAl))
    ·repeat ((conv=>whnf);first|refine zy ?_|refine zk ?_|refine zj ?_|refine zc ?_|refine zv (by first|exact hd|(rw [hd];rfl)) ?_|refine zr (by first|exact hd|(rw [hd];rfl)) ?_|refine zq (by first|exact hd|(rw [hd];rfl)) ?_)
     conv=>whnf
     refine yf fun x=>?_
     have hRl:(l++x).length=n+x.length:=by rw [List.length_append,←hnl]
     have hT1:List.take ((n:Int)+0-16).toNat (l++x)=l.take (n-16):=by
       rw [hnn,List.take_append_of_le_length (by omega)]
     have hT3:List.drop ((n:Int)+0-16).toNat (l++x)=l.drop (n-16)++x:=by
       rw [hnn,List.drop_append_of_le_length (by omega)]
     have hStr:yw w key nonce=zgs key nonce:=by funext b;unfold yw;rw [if_neg h4]
     have hX:(gst (gW key) (gR key) nonce 2 (List.take ((n:Int)+0-16).toNat (l++x))++List.drop ((n:Int)+0-16).toNat (l++x))=yw w key nonce (l.take (n-16))++(l.drop (n-16)++x):=by
       rw [hT1,hT3,hStr];unfold zgs;rfl
     have hXl:(gst (gW key) (gR key) nonce 2 (List.take ((n:Int)+0-16).toNat (l++x))++List.drop ((n:Int)+0-16).toNat (l++x)).length=n+x.length:=by
       rw [hX,List.length_append,List.length_append,xw,List.length_take,List.length_drop]
       omega
     have hof:(off (ya [] (slO (n+x.length) ((n:Int)+0-16).toNat) ty5.sz))=n-16:=by rw [hnn,zw,yv (by omega)];show 0+(n-16)*1=_;omega
     have hpo:(off (ya [] (slO (n+x.length) ((n:Int)+0-16).toNat) ty5.sz))+(n-((n:Int)+0-16).toNat)≤(gst (gW key) (gR key) nonce 2 (List.take ((n:Int)+0-16).toNat (l++x))++List.drop ((n:Int)+0-16).toNat (l++x)).length:=by rw [hof,hXl,hnn];omega
     have hA1:List.take ((n:Int)+0-16).toNat (gst (gW key) (gR key) nonce 2 (List.take ((n:Int)+0-16).toNat (l++x))++List.drop ((n:Int)+0-16).toNat (l++x))=yw w key nonce (l.take (n-16)):=by
       rw [hX];exact List.take_left' (by rw [xw,List.length_take,hnn];omega)
     have hTg:(gtg (gW key) (gR key) ((gH (gW key) (gR key)).1,(gH (gW key) (gR key)).2) nonce aad (List.take ((n:Int)+0-16).toNat (gst (gW key) (gR key) nonce 2 (List.take ((n:Int)+0-16).toNat (l++x))++List.drop ((n:Int)+0-16).toNat (l++x))))=xo w key nonce aad (yw w key nonce (l.take (n-16))):=by
       rw [hA1];unfold xo;rw [if_neg h4];unfold ziu;rfl
     have hTl:(gtg (gW key) (gR key) ((gH (gW key) (gR key)).1,(gH (gW key) (gR key)).2) nonce aad (List.take ((n:Int)+0-16).toNat (gst (gW key) (gR key) nonce 2 (List.take ((n:Int)+0-16).toNat (l++x))++List.drop ((n:Int)+0-16).toNat (l++x)))).length=16:=by rw [hTg,zcb]
     have hWl:=zt6 (key:=key) (by omega)
     have hR7:gR key=key.length/ 4+7:=by unfold gR;rfl
     have hpx:box=box∧nonce.length=12∧1≤gR key∧gR key≤100∧16*gR key≤(gW key).length∧((n:Int)+0-16).toNat≤(l++x).length∧((n:Int)+0-16).toNat≤n+x.length∧((n:Int)+0-16).toNat≤9223372036854775807:=⟨rfl,h1,by omega,by omega,by omega,by omega,by omega,by omega⟩
     have hpt:box=box∧nonce.length=12∧1≤gR key∧gR key≤100∧16*gR key≤(gW key).length∧((n:Int)+0-16).toNat≤(gst (gW key) (gR key) nonce 2 (List.take ((n:Int)+0-16).toNat (l++x))++List.drop ((n:Int)+0-16).toNat (l++x)).length∧((n:Int)+0-16).toNat≤n+x.length∧aad.length≤65536∧((n:Int)+0-16).toNat≤70000:=⟨rfl,h1,by omega,by omega,by omega,by omega,by omega,h2,by omega⟩
     have hSp:(zt (gst (gW key) (gR key) nonce 2 (List.take ((n:Int)+0-16).toNat (l++x))++List.drop ((n:Int)+0-16).toNat (l++x)) (off (ya [] (slO (n+x.length) ((n:Int)+0-16).toNat) ty5.sz)) (List.take (min (gtg (gW key) (gR key) ((gH (gW key) (gR key)).1,(gH (gW key) (gR key)).2) nonce aad (List.take ((n:Int)+0-16).toNat (gst (gW key) (gR key) nonce 2 (List.take ((n:Int)+0-16).toNat (l++x))++List.drop ((n:Int)+0-16).toNat (l++x)))).length (n-((n:Int)+0-16).toNat)) (gtg (gW key) (gR key) ((gH (gW key) (gR key)).1,(gH (gW key) (gR key)).2) nonce aad (List.take ((n:Int)+0-16).toNat (gst (gW key) (gR key) nonce 2 (List.take ((n:Int)+0-16).toNat (l++x))++List.drop ((n:Int)+0-16).toNat (l++x))))))=y0 w key nonce aad (l.take (n-16))++x:=by
       rw [hTl,show min 16 (n-((n:Int)+0-16).toNat)=16 by omega,List.take_of_length_le (Nat.le_of_eq hTl),hTg,hof,hX,zcc]
       unfold zt
       rw [zcb,List.take_left' (by rw [xw,List.length_take];omega),←List.append_assoc (yw w key nonce _),List.drop_left' (by rw [List.length_append,xw,List.length_take,List.length_drop];omega)]
     have hAl:(y0 w key nonce aad (l.take (n-16))).length=n:=by
       rw [zcc,List.length_append,zcb,xw,List.length_take];omega
     have hSpl:(zt (gst (gW key) (gR key) nonce 2 (List.take ((n:Int)+0-16).toNat (l++x))++List.drop ((n:Int)+0-16).toNat (l++x)) (off (ya [] (slO (n+x.length) ((n:Int)+0-16).toNat) ty5.sz)) (List.take (min (gtg (gW key) (gR key) ((gH (gW key) (gR key)).1,(gH (gW key) (gR key)).2) nonce aad (List.take ((n:Int)+0-16).toNat (gst (gW key) (gR key) nonce 2 (List.take ((n:Int)+0-16).toNat (l++x))++List.drop ((n:Int)+0-16).toNat (l++x)))).length (n-((n:Int)+0-16).toNat)) (gtg (gW key) (gR key) ((gH (gW key) (gR key)).1,(gH (gW key) (gR key)).2) nonce aad (List.take ((n:Int)+0-16).toNat (gst (gW key) (gR key) nonce 2 (List.take ((n:Int)+0-16).toNat (l++x))++List.drop ((n:Int)+0-16).toNat (l++x)))))).length=n+x.length:=by rw [hSp,List.length_append,hAl]
     have hps:n=n∧n=l.length∧0<n∧n≤100000∧n≤(zt (gst (gW key) (gR key) nonce 2 (List.take ((n:Int)+0-16).toNat (l++x))++List.drop ((n:Int)+0-16).toNat (l++x)) (off (ya [] (slO (n+x.length) ((n:Int)+0-16).toNat) ty5.sz)) (List.take (min (gtg (gW key) (gR key) ((gH (gW key) (gR key)).1,(gH (gW key) (gR key)).2) nonce aad (List.take ((n:Int)+0-16).toNat (gst (gW key) (gR key) nonce 2 (List.take ((n:Int)+0-16).toNat (l++x))++List.drop ((n:Int)+0-16).toNat (l++x)))).length (n-((n:Int)+0-16).toNat)) (gtg (gW key) (gR key) ((gH (gW key) (gR key)).1,(gH (gW key) (gR key)).2) nonce aad (List.take ((n:Int)+0-16).toNat (gst (gW key) (gR key) nonce 2 (List.take ((n:Int)+0-16).toNat (l++x))++List.drop ((n:Int)+0-16).toNat (l++x)))))).length∧n≤n+x.length:=⟨rfl,hnl,by omega,by omega,by omega,by omega⟩
     have hpj:n=l.length∧0<n∧n≤100000:=⟨hnl,by omega,by omega⟩
     refine za ?_
     refine yu (hp':= [.mk t [.arr8 m (y0 w key nonce aad (l.take (n-16)))]]) [0] h ?_
     repeat ((conv=>whnf);refine zc ?_)
     conv=>whnf
     exact zu (congrArg (fun y=>SV.agg [SV.arr8 m y]) (by rw [hSp];exact List.take_left' hAl))
   ·exact h.elim
end Go.Sym.Z

namespace Go.Sym.Z
open Go Go.Proofs.Tryz Go.Sym.Lp Go.Sym.Cha Go.Sym.Sha Go.Sym.Hk
set_option maxRecDepth 100000
attribute [local irreducible] zaf exF kyF ivF y0 xo yw inL ncF hdF
def ybe:List (Nat×List PStep):= [(10,[⟨0,[]⟩,⟨1,[]⟩,⟨2,[]⟩,⟨3,[]⟩,⟨4,[0,1,2,3]⟩,⟨5,[0,1,2,3]⟩,⟨6,[0,1,2,3]⟩,⟨7,[0,1,2,3]⟩,⟨8,[0,1,2,3,4,5,6,7]⟩,⟨10,[0,1,2,3,4,5,6,7,8]⟩,⟨11,[0,1,2,3,4,5,6,7,8,10]⟩,⟨9,[0,1,2,3,4,5,6,7,10,11]⟩,⟨12,[]⟩,⟨13,[]⟩])]
theorem zh4 (k n:Int):(hdF k n).length=5:=by unfold hdF;rfl
theorem ztj {p n:Int} (hn0:0≤n) (hn:n≤16384) (hp:0≤p):n+1≤inL p n∧inL p n≤16385:=by
  unfold inL
  split
  ·rename_i h0
   have h:=Int.lt_ediv_add_one_mul_self (n+1+p-1) h0
   rw [Int.add_mul,Int.one_mul] at h
   omega
  ·omega
def zan (p:Int) (kind:Int) (s:List UInt8):List UInt8:=s++UInt8.ofInt kind ::List.replicate ((inL p s.length).toNat-s.length-1) 0
def yt (p w:Int) (key iv:List UInt8) (m kind:Int) (s:List UInt8):List UInt8:=
  hdF 23 ((inL p s.length)+16)++y0 w key (ncF iv m) (hdF 23 ((inL p s.length)+16)) (zan p kind s)
def zrs (w:Int) (key iv:List UInt8) (m:Int):Prop:=su w∧key.length=aSz w∧iv.length=12∧0≤m∧m≤1000000000
theorem zq7 {w:Int} {key iv:List UInt8} {m:Int} (h:zrs w key iv m):zgt w key.length:=by
  obtain ⟨h1,h2,_⟩:=h
  rw [h2]
  unfold zgt aSz
  rcases h1 with e|e|e<;>subst e<;>simp
theorem z0b {L:Nat} {s:List UInt8} (h:s.length+1≤L) (k:UInt8) {i:Nat} (hi:i=s.length):(zt (List.replicate (L+16) 0) (off []) (List.take (min s.length (L+16)) s)).set i k=s++k ::List.replicate (L+16-s.length-1) 0:=by
  subst hi
  rw [List.take_of_length_le (show s.length≤min s.length (L+16) by omega)]
  unfold zt
  show (List.take 0 _++s++List.drop (0+s.length) _).set _ _=_
  rw [List.take_zero,List.nil_append,List.drop_replicate,Nat.zero_add,List.set_append_right _ _ (Nat.le_refl _),Nat.sub_self,show L+16-s.length=(L+16-s.length-1)+1 by omega,List.replicate_succ]
  rfl
theorem zss {L:Nat} {s:List UInt8} (h:s.length+1≤L) (k:UInt8):(s++k ::List.replicate (L+16-s.length-1) 0).take L=s++k ::List.replicate (L-s.length-1) 0:=by
  rw [List.take_append,List.take_of_length_le (by omega),show L-s.length=(L-s.length-1)+1 by omega,List.take_succ_cons,List.take_replicate]
  congr 3
  omega
end Go.Sym.Z

namespace Go.Sym.Z
open Go Go.Proofs.Tryz Go.Sym.Lp Go.Sym.Cha Go.Sym.Sha Go.Sym.Hk
set_option maxRecDepth 100000
attribute [local irreducible] zaf exF kyF ivF y0 xo yw inL ncF
def ya6:List (Nat×List PStep):= []
def yaz:List (Nat×List PStep):= []
def hK (h:List UInt8):Int:=((h.getD 0 0).toNat:Int)
def hN (h:List UInt8):Int:=256*((h.getD 3 0).toNat:Int)+((h.getD 4 0).toNat:Int)
def hA (h:List UInt8) (keyed:Bool):Int:=
  if xe (hK h) then (if (if keyed=true∧hK h=23 then 16640 else 16384)<hN h then 22 else if keyed=true∧(hK h=21∨hK h=22) then 10 else-1) else 10
def z03:Spec:=fun args hp K=>match args,hp with
  | [.str h,.bool keyed],[]=>Pre (5≤h.length∧h.length<9223372036854775808)
      (yg (decide (hA h keyed= -1)) (K (.tup [.int (hK h),.int (hN h),.int (-1)]) []) (K (.tup [.int 0,.int 0,.int (hA h keyed)]) []))
  |_,_=>False
set_option maxHeartbeats 4000000 in
theorem z62:zp prog 69 z03:=by
  refine zl zba (ze z8s (ze zvx zg)) rfl func69 rfl call69 (D:=ya6) ?_ ?_
  ·intro args hp K h
   unfold z03 at h
   split at h
   ·exact Nat.le_of_ble_eq_true rfl
   ·exact h.elim
  ·intro args hp K h
   unfold z03 at h
   split at h
   ·rename_i x keyed
    obtain ⟨⟨hl,hl2⟩,h⟩:=zi h
    obtain ⟨ht,hf⟩:=yc h
    have hpu:0≤(3:Int)∧3+2≤(x.length:Int)∧x.length<9223372036854775808:=⟨by decide,by omega,hl2⟩
    have hkd:hK x=((x.getD (Int.toNat 0) 0).toNat:Int):=rfl
    have hnd:hN x=256*((x.getD (Int.toNat 3) 0).toNat:Int)+((x.getD (Int.toNat 3+1) 0).toNat:Int):=rfl
    have b0:=(x.getD (Int.toNat 0) 0).toNat_lt
    have b3:=(x.getD (Int.toNat 3) 0).toNat_lt
    have b4:=(x.getD (Int.toNat 3+1) 0).toNat_lt
    by_cases h1:xe (hK x)
    ·have d1:decide (xe ((x.getD (Int.toNat 0) 0).toNat:Int))=true:=decide_eq_true h1
     have h1':=h1
     unfold xe at h1'
     by_cases hk:keyed=true
     ·subst hk
      by_cases h23:hK x=23
      ·have d21:decide (((x.getD (Int.toNat 0) 0).toNat:Int)=21)=false:=decide_eq_false (by omega)
       have d22:decide (((x.getD (Int.toNat 0) 0).toNat:Int)=22)=false:=decide_eq_false (by omega)
       by_cases h2:16640<hN x
       ·have hv:hA x true=22:=by unfold hA;rw [if_pos h1,if_pos (show true=true∧hK x=23 from ⟨rfl,h23⟩),if_pos h2]
        have h:=hf (decide_eq_false (by rw [hv];decide))
        rw [hv] at h
        repeat ((conv=>whnf);first|refine zy ?_|refine zk ?_|refine zj ?_|refine zc ?_|refine zv (by first|exact d1|(rw [d1];rfl)|exact d21|(rw [d21];rfl)|exact d22|(rw [d22];rfl)) ?_|refine zr (by first|exact d1|(rw [d1];rfl)|exact d21|(rw [d21];rfl)|exact d22|(rw [d22];rfl)) ?_|refine zq (by first|exact d1|(rw [d1];rfl)|exact d21|(rw [d21];rfl)|exact d22|(rw [d22];rfl)) ?_)
        conv=>whnf
        exact zm [] h
       ·have hv:hA x true= -1:=by unfold hA;rw [if_pos h1,if_pos (show true=true∧hK x=23 from ⟨rfl,h23⟩),if_neg h2,if_neg (fun h=>by omega)]
        have h:=ht (decide_eq_true hv)
        repeat ((conv=>whnf);first|refine zy ?_|refine zk ?_|refine zj ?_|refine zc ?_|refine zv (by first|exact d1|(rw [d1];rfl)|exact d21|(rw [d21];rfl)|exact d22|(rw [d22];rfl)) ?_|refine zr (by first|exact d1|(rw [d1];rfl)|exact d21|(rw [d21];rfl)|exact d22|(rw [d22];rfl)) ?_|refine zq (by first|exact d1|(rw [d1];rfl)|exact d21|(rw [d21];rfl)|exact d22|(rw [d22];rfl)) ?_)
        conv=>whnf
        exact zm [] h
      ·by_cases h2:16384<hN x
       ·have hv:hA x true=22:=by unfold hA;rw [if_pos h1,if_neg (show ¬(true=true∧hK x=23) from fun h=>h23 h.2),if_pos h2]
        have h:=hf (decide_eq_false (by rw [hv];decide))
        rw [hv] at h
        repeat ((conv=>whnf);first|refine zy ?_|refine zk ?_|refine zj ?_|refine zc ?_|refine zv (by first|exact d1|(rw [d1];rfl)|exact d21|(rw [d21];rfl)|exact d22|(rw [d22];rfl)) ?_|refine zr (by first|exact d1|(rw [d1];rfl)|exact d21|(rw [d21];rfl)|exact d22|(rw [d22];rfl)) ?_|refine zq (by first|exact d1|(rw [d1];rfl)|exact d21|(rw [d21];rfl)|exact d22|(rw [d22];rfl)) ?_)
        conv=>whnf
        exact zm [] h
       ·by_cases h21:hK x=21
        ·have d21:decide (((x.getD (Int.toNat 0) 0).toNat:Int)=21)=true:=decide_eq_true h21
         have hv:hA x true=10:=by unfold hA;rw [if_pos h1,if_neg (show ¬(true=true∧hK x=23) from fun h=>h23 h.2),if_neg h2,if_pos (show true=true∧(hK x=21∨hK x=22) from ⟨rfl,.inl h21⟩)]
         have h:=hf (decide_eq_false (by rw [hv];decide))
         rw [hv] at h
         repeat ((conv=>whnf);first|refine zy ?_|refine zk ?_|refine zj ?_|refine zc ?_|refine zv (by first|exact d1|(rw [d1];rfl)|exact d21|(rw [d21];rfl)|exact d22|(rw [d22];rfl)) ?_|refine zr (by first|exact d1|(rw [d1];rfl)|exact d21|(rw [d21];rfl)|exact d22|(rw [d22];rfl)) ?_|refine zq (by first|exact d1|(rw [d1];rfl)|exact d21|(rw [d21];rfl)|exact d22|(rw [d22];rfl)) ?_)
         conv=>whnf
         exact zm [] h
        ·have d21:decide (((x.getD (Int.toNat 0) 0).toNat:Int)=21)=false:=decide_eq_false (by omega)
         by_cases h22:hK x=22
         ·have d22:decide (((x.getD (Int.toNat 0) 0).toNat:Int)=22)=true:=decide_eq_true h22
          have hv:hA x true=10:=by unfold hA;rw [if_pos h1,if_neg (show ¬(true=true∧hK x=23) from fun h=>h23 h.2),if_neg h2,if_pos (show true=true∧(hK x=21∨hK x=22) from ⟨rfl,.inr h22⟩)]
          have h:=hf (decide_eq_false (by rw [hv];decide))
          rw [hv] at h
          repeat ((conv=>whnf);first|refine zy ?_|refine zk ?_|refine zj ?_|refine zc ?_|refine zv (by first|exact d1|(rw [d1];rfl)|exact d21|(rw [d21];rfl)|exact d22|(rw [d22];rfl)) ?_|refine zr (by first|exact d1|(rw [d1];rfl)|exact d21|(rw [d21];rfl)|exact d22|(rw [d22];rfl)) ?_|refine zq (by first|exact d1|(rw [d1];rfl)|exact d21|(rw [d21];rfl)|exact d22|(rw [d22];rfl)) ?_)
          conv=>whnf
          exact zm [] h
         ·have d22:decide (((x.getD (Int.toNat 0) 0).toNat:Int)=22)=false:=decide_eq_false (by omega)
          have hv:hA x true= -1:=by unfold hA;rw [if_pos h1,if_neg (show ¬(true=true∧hK x=23) from fun h=>h23 h.2),if_neg h2,if_neg (fun h=>by omega)]
          have h:=ht (decide_eq_true hv)
          repeat ((conv=>whnf);first|refine zy ?_|refine zk ?_|refine zj ?_|refine zc ?_|refine zv (by first|exact d1|(rw [d1];rfl)|exact d21|(rw [d21];rfl)|exact d22|(rw [d22];rfl)) ?_|refine zr (by first|exact d1|(rw [d1];rfl)|exact d21|(rw [d21];rfl)|exact d22|(rw [d22];rfl)) ?_|refine zq (by first|exact d1|(rw [d1];rfl)|exact d21|(rw [d21];rfl)|exact d22|(rw [d22];rfl)) ?_)
          conv=>whnf
          exact zm [] h
     ·have hk':keyed=false:=by cases keyed;rfl;exact absurd rfl hk
      subst hk'
      by_cases h2:16384<hN x
      ·have hv:hA x false=22:=by unfold hA;rw [if_pos h1,if_neg (show ¬(false=true∧hK x=23) from fun h=>Bool.noConfusion h.1),if_pos h2]
       have h:=hf (decide_eq_false (by rw [hv];decide))
       rw [hv] at h
       repeat ((conv=>whnf);first|refine zy ?_|refine zk ?_|refine zj ?_|refine zc ?_|refine zv (by first|exact d1|(rw [d1];rfl)|exact d21|(rw [d21];rfl)|exact d22|(rw [d22];rfl)) ?_|refine zr (by first|exact d1|(rw [d1];rfl)|exact d21|(rw [d21];rfl)|exact d22|(rw [d22];rfl)) ?_|refine zq (by first|exact d1|(rw [d1];rfl)|exact d21|(rw [d21];rfl)|exact d22|(rw [d22];rfl)) ?_)
       conv=>whnf
       exact zm [] h
      ·have hv:hA x false= -1:=by unfold hA;rw [if_pos h1,if_neg (show ¬(false=true∧hK x=23) from fun h=>Bool.noConfusion h.1),if_neg h2,if_neg (fun h=>Bool.noConfusion h.1)]
       have h:=ht (decide_eq_true hv)
       repeat ((conv=>whnf);first|refine zy ?_|refine zk ?_|refine zj ?_|refine zc ?_|refine zv (by first|exact d1|(rw [d1];rfl)|exact d21|(rw [d21];rfl)|exact d22|(rw [d22];rfl)) ?_|refine zr (by first|exact d1|(rw [d1];rfl)|exact d21|(rw [d21];rfl)|exact d22|(rw [d22];rfl)) ?_|refine zq (by first|exact d1|(rw [d1];rfl)|exact d21|(rw [d21];rfl)|exact d22|(rw [d22];rfl)) ?_)
       conv=>whnf
       exact zm [] h
    ·have d1:decide (xe ((x.getD (Int.toNat 0) 0).toNat:Int))=false:=decide_eq_false h1
     have hv:hA x keyed=10:=by unfold hA;rw [if_neg h1]
     have hz:=hf (decide_eq_false (by rw [hv];decide))
     rw [hv] at hz
     have h1':=h1
     unfold xe at h1'
     clear hv ht hf
     cases keyed
     ·repeat ((conv=>whnf);first|refine zy ?_|refine zk ?_|refine zj ?_|refine zc ?_|refine zv (by first|exact d1|(rw [d1];rfl)) ?_|refine zr (by first|exact d1|(rw [d1];rfl)) ?_|refine zq (by first|exact d1|(rw [d1];rfl)) ?_)
      conv=>whnf
      exact zm [] hz
     ·repeat ((conv=>whnf);first|refine zy ?_|refine zk ?_|refine zj ?_|refine zc ?_|refine zv (by first|exact d1|(rw [d1];rfl)) ?_|refine zr (by first|exact d1|(rw [d1];rfl)) ?_|refine zq (by first|exact d1|(rw [d1];rfl)) ?_)
      conv=>whnf
      exact zm [] hz
   ·exact h.elim
def lnz (p:List UInt8):Nat→Nat
  |0=>0
  |n+1=>if p.getD n 0=0 then lnz p n else n+1
theorem z0j (p:List UInt8): ∀n,lnz p n≤n
  |0=>Nat.le_refl _
  |n+1=>by
   simp only [lnz]
   split
   ·exact Nat.le_succ_of_le (z0j p n)
   ·exact Nat.le_refl _
def iK (p:List UInt8):Int:=((p.getD (lnz p p.length-1) 0).toNat:Int)
def iA (p:List UInt8):Int:=if 16385<p.length then 22 else if lnz p p.length=0 then 10 else if iK p=21∨iK p=22∨iK p=23 then-1 else 10
structure Zs (p:List UInt8) where
  k:Nat
  hk:k≤p.length
  hz:lnz p p.length=lnz p k
end Go.Sym.Z

namespace Go.Sym.Z
open Go Go.Proofs.Tryz Go.Sym.Lp Go.Sym.Cha Go.Sym.Sha Go.Sym.Hk
set_option maxRecDepth 100000
attribute [local irreducible] zaf exF kyF ivF y0 xo yw inL ncF lnz iA
end Go.Sym.Z

namespace Go.Sym.Z
open Go Go.Proofs.Tryz Go.Sym.Lp Go.Sym.Cha Go.Sym.Sha Go.Sym.Hk
set_option maxRecDepth 100000
attribute [local irreducible] zaf exF kyF ivF y0 xo yw inL ncF lnz iA hA hN hK
def hT (h:List UInt8):List UInt8:=(h.drop 5).take (hN h).toNat
def hR (h:List UInt8):List UInt8:=h.drop (5+(hN h).toNat)
def hP (w:Int) (key iv:List UInt8) (m:Int) (h:List UInt8):List UInt8:=yw w key (ncF iv m) ((hT h).take ((hT h).length-16))
def hO (w:Int) (key iv:List UInt8) (m:Int) (h:List UInt8):Prop:=16≤(hT h).length∧xo w key (ncF iv m) (h.take 5) ((hT h).take ((hT h).length-16))=(hT h).drop ((hT h).length-16)
instance (w:Int) (key iv:List UInt8) (m:Int) (h:List UInt8):Decidable (hO w key iv m h):=by unfold hO;exact inferInstance
theorem z16 (h:List UInt8):0≤hN h∧hN h≤65535:=by
  unfold hN
  have b3:=(h.getD 3 0).toNat_lt
  have b4:=(h.getD 4 0).toNat_lt
  omega
theorem z5h {h:List UInt8} {b:Bool} (e:hA h b= -1):hN h≤16640:=by
  have hm:(if b=true∧hK h=23 then (16640:Int) else 16384)≤16640:=by split<;>decide
  by_cases h1:xe (hK h)
  ·by_cases h2:(if b=true∧hK h=23 then (16640:Int) else 16384)<hN h
   ·exfalso
    have e2:hA h b=22:=by unfold hA;rw [if_pos h1,if_pos h2]
    rw [e2] at e
    exact absurd e (by decide)
   ·omega
  ·exfalso
   have e2:hA h b=10:=by unfold hA;rw [if_neg h1]
   rw [e2] at e
   exact absurd e (by decide)
end Go.Sym.Z

namespace Go.Sym.Z
open Go Go.Proofs.Tryz Go.Sym.Lp Go.Sym.Cha Go.Sym.Sha Go.Sym.Hk Go.Sym.Gcm Go.Sym.Aes
set_option maxRecDepth 100000
theorem z3c (W:List UInt8) (R:Nat) (nonce:List UInt8) (n:UInt32) (s:List UInt8):gst W R nonce n (gst W R nonce n s)=s:=by
  have e: ∀i,i<s.length→stG W R nonce n (gst W R nonce n s) i=s.getD i 0:=by
    intro i hi
    unfold stG
    have:(gst W R nonce n s).getD i 0=stG W R nonce n s i:=by unfold gst;exact zdj _ _ hi 0
    rw [this]
    unfold stG
    rw [UInt8.xor_assoc,UInt8.xor_self,UInt8.xor_zero]
  have h1: ∀t:List UInt8,t.length=s.length→gst W R nonce n t=(List.range s.length).map (stG W R nonce n t):=fun t ht=>by unfold gst;rw [ht]
  rw [h1 _ (zhu _ _ _ _ _),xd e]
  exact zfi rfl 0
theorem zw9 (key nonce:List UInt8) (n:UInt32) (s:List UInt8):xl key nonce n (xl key nonce n s)=s:=by
  have e: ∀i,i<s.length→zg6 key nonce n (xl key nonce n s) i=s.getD i 0:=by
    intro i hi
    unfold zg6
    have:(xl key nonce n s).getD i 0=zg6 key nonce n s i:=by unfold xl;exact zdj _ _ hi 0
    rw [this]
    unfold zg6
    rw [UInt8.xor_assoc,UInt8.xor_self,UInt8.xor_zero]
  have h1: ∀t:List UInt8,t.length=s.length→xl key nonce n t=(List.range s.length).map (zg6 key nonce n t):=fun t ht=>by unfold xl;rw [ht]
  rw [h1 _ (zik _ _ _ _),xd e]
  exact zfi rfl 0
theorem z1x (w:Int) (key nonce s:List UInt8):yw w key nonce (yw w key nonce s)=s:=by
  unfold yw
  split
  ·exact zw9 _ _ _ _
  ·unfold zgs;exact z3c _ _ _ _ _
theorem zr1 {s:List UInt8} {k:UInt8} {z:Nat} (hk:k≠0): ∀y,y≤z→lnz (s++k ::List.replicate z 0) (s.length+1+y)=s.length+1
  |0,_=>by
   show lnz _ (s.length+1)=_
   simp only [lnz]
   have e:(s++k ::List.replicate z 0).getD s.length 0=k:=by rw [List.getD_eq_getElem?_getD,List.getElem?_append_right (Nat.le_refl _),Nat.sub_self];rfl
   rw [if_neg (by rw [e];exact hk)]
  |y+1,h=>by
   show lnz _ (s.length+1+y+1)=_
   simp only [lnz]
   have e:(s++k ::List.replicate z 0).getD (s.length+1+y) 0=0:=by
     rw [List.getD_eq_getElem?_getD,List.getElem?_append_right (by omega),show s.length+1+y-s.length=y+1 by omega,List.getElem?_cons_succ,List.getElem?_replicate,if_pos (by omega)];rfl
   rw [if_pos e]
   exact zr1 hk y (by omega)
theorem zl6 {p kind:Int} {s:List UInt8} (hs:s.length≤16384) (hp:0≤p):((zan p kind s).length:Int)=inL p s.length∧inL p s.length≤16385:=by
  obtain ⟨h1,h2⟩:=ztj (p:=p) (n:=(s.length:Int)) (by omega) (by omega) hp
  refine ⟨?_,h2⟩
  unfold zan
  rw [List.length_append,List.length_cons,List.length_replicate]
  omega
theorem zk4 {k:Int} (h:0≤k∧k≤255):((UInt8.ofInt k).toNat:Int)=k:=by rw [zkp];omega
theorem z4m {p kind:Int} {s:List UInt8} (hs:s.length≤16384) (hp:0≤p) (hk:kind=21∨kind=22∨kind=23):
    lnz (zan p kind s) (zan p kind s).length=s.length+1∧iK (zan p kind s)=kind∧iA (zan p kind s)= -1∧(zan p kind s).take (lnz (zan p kind s) (zan p kind s).length-1)=s:=by
  obtain ⟨hl,h2⟩:=zl6 (kind:=kind) hs hp
  have hkk:((UInt8.ofInt kind).toNat:Int)=kind:=zk4 (by omega)
  have hne:UInt8.ofInt kind≠0:=fun h=>by rw [h] at hkk;change (0:Int)=kind at hkk;omega
  have h1:lnz (zan p kind s) (zan p kind s).length=s.length+1:=by
    have hz:(zan p kind s).length=s.length+1+((inL p s.length).toNat-s.length-1):=by
      unfold zan;rw [List.length_append,List.length_cons,List.length_replicate];omega
    rw [hz];unfold zan;exact zr1 hne _ (Nat.le_refl _)
  have h3:iK (zan p kind s)=kind:=by
    unfold iK;rw [h1,Nat.add_sub_cancel]
    have e:(zan p kind s).getD s.length 0=UInt8.ofInt kind:=by unfold zan;rw [List.getD_eq_getElem?_getD,List.getElem?_append_right (Nat.le_refl _),Nat.sub_self];rfl
    rw [e,hkk]
  refine ⟨h1,h3,?_,?_⟩
  ·unfold iA
   rw [if_neg (by omega),if_neg (by rw [h1];omega),if_pos (by rw [h3];exact hk)]
  ·rw [h1,Nat.add_sub_cancel];unfold zan;exact List.take_left' rfl
theorem z8g {k n:Int} (t:List UInt8) (h:0≤n∧n≤65535):hN (hdF k n++t)=n:=by
  have e:hN (hdF k n++t)=256*((UInt8.ofInt (n/ 2^8)).toNat:Int)+((UInt8.ofInt n).toNat:Int):=rfl
  rw [e,zkp,zkp]
  have:(2:Int)^8=256:=rfl
  rw [this];omega
theorem z88 {k n:Int} (t:List UInt8) (h:0≤k∧k≤255):hK (hdF k n++t)=k:=by
  have e:hK (hdF k n++t)=((UInt8.ofInt k).toNat:Int):=rfl
  rw [e,zk4 h]
theorem z9x {h:List UInt8} {b:Bool} {k n:Int} (hk:hK h=k) (hn:hN h=n) (h1:xe k) (h2:n≤(if b=true∧k=23 then 16640 else 16384)) (h3: ¬(b=true∧(k=21∨k=22))):hA h b= -1:=by
  unfold hA
  rw [hk,hn,if_pos h1,if_neg (by omega),if_neg h3]
theorem zd6 (w:Int) (key nonce aad s:List UInt8):(y0 w key nonce aad s).length=s.length+16:=by
  rw [zcc,List.length_append,xw,zcb]
theorem zgk {p w:Int} {key iv:List UInt8} {m kind:Int} {s:List UInt8} (hs:s.length≤16384) (hp:0≤p):((yt p w key iv m kind s).length:Int)=21+inL p s.length:=by
  obtain ⟨hl,h2⟩:=zl6 (kind:=kind) hs hp
  unfold yt
  rw [List.length_append,zd6,zh4];omega
theorem zru {p w:Int} {key iv:List UInt8} {m kind:Int} {s:List UInt8} (t:List UInt8) (hs:s.length≤16384) (hp:0≤p):
    5≤(yt p w key iv m kind s++t).length∧hA (yt p w key iv m kind s++t) true= -1∧hK (yt p w key iv m kind s++t)=23∧5+hN (yt p w key iv m kind s++t)≤((yt p w key iv m kind s++t).length:Int)∧hO w key iv m (yt p w key iv m kind s++t)∧hP w key iv m (yt p w key iv m kind s++t)=zan p kind s∧hR (yt p w key iv m kind s++t)=t:=by
  obtain ⟨hl,h2⟩:=zl6 (kind:=kind) hs hp
  obtain ⟨h3,_⟩:=ztj (p:=p) (n:=(s.length:Int)) (by omega) (by omega) hp
  have hL:=zgk (w:=w) (key:=key) (iv:=iv) (m:=m) (kind:=kind) hs hp
  have hb:0≤inL p s.length+16∧inL p s.length+16≤65535:=⟨by omega,by omega⟩
  have hK0:hK (yt p w key iv m kind s++t)=23:=by unfold yt;rw [List.append_assoc];exact z88 _ (by decide)
  have hN0:hN (yt p w key iv m kind s++t)=inL p s.length+16:=by unfold yt;rw [List.append_assoc];exact z8g _ hb
  have hSl:((y0 w key (ncF iv m) (hdF 23 (inL p s.length+16)) (zan p kind s)).length:Int)=inL p s.length+16:=by rw [zd6];omega
  have hT0:hT (yt p w key iv m kind s++t)=y0 w key (ncF iv m) (hdF 23 (inL p s.length+16)) (zan p kind s):=by
    unfold hT
    rw [hN0]
    unfold yt
    rw [List.append_assoc,List.drop_left' (zh4 _ _)]
    exact List.take_left' (by omega)
  have hTt:(hT (yt p w key iv m kind s++t)).take ((hT (yt p w key iv m kind s++t)).length-16)=yw w key (ncF iv m) (zan p kind s):=by
    rw [hT0,zd6,Nat.add_sub_cancel,zcc];exact List.take_left' (xw _ _ _ _)
  have hTd:(hT (yt p w key iv m kind s++t)).drop ((hT (yt p w key iv m kind s++t)).length-16)=xo w key (ncF iv m) (hdF 23 (inL p s.length+16)) (yw w key (ncF iv m) (zan p kind s)):=by
    rw [hT0,zd6,Nat.add_sub_cancel,zcc];exact List.drop_left' (xw _ _ _ _)
  have hT5:(yt p w key iv m kind s++t).take 5=hdF 23 (inL p s.length+16):=by
    unfold yt;rw [List.append_assoc];exact List.take_left' (zh4 _ _)
  refine ⟨by rw [List.length_append];omega,z9x hK0 hN0 (by decide) (by rw [if_pos ⟨rfl,rfl⟩];omega) (by decide),hK0,by rw [hN0,List.length_append];omega,?_,?_,?_⟩
  ·unfold hO
   rw [hTt,hTd,hT5,hT0,zd6]
   exact ⟨by omega,rfl⟩
  ·unfold hP
   rw [hTt,z1x]
  ·unfold hR
   rw [hN0]
   exact List.drop_left' (by omega)
attribute [local irreducible] zaf exF kyF ivF y0 xo yw inL ncF lnz iA hA hN hK
end Go.Sym.Z

namespace Go.Sym.Z
open Go Go.Proofs.Tryz Go.Sym.Lp Go.Sym.Cha Go.Sym.Sha Go.Sym.Hk Go.Sym.Gcm Go.Sym.Aes
set_option maxRecDepth 100000
attribute [local irreducible] zaf exF kyF ivF y0 xo yw inL ncF lnz iA hA hN hK yt zan hO hP hR hT iK
end Go.Sym.Z

namespace Go.Sym.Z
open Go Go.Proofs.Tryz Go.Sym.Lp Go.Sym.Cha Go.Sym.Sha Go.Sym.Hk Go.Sym.Gcm
set_option maxRecDepth 100000
attribute [local irreducible] zaf exF kyF ivF y0 xo yw inL ncF lnz iA hA hN hK
end Go.Sym.Z

namespace Go.Sym.Z
open Go Go.Proofs.Tryz Go.Sym.Lp Go.Sym.Cha Go.Sym.Sha Go.Sym.Hk Go.Sym.Gcm
set_option maxRecDepth 100000
attribute [local irreducible] zaf exF kyF ivF y0 xo yw inL ncF lnz iA hA hN hK
def z9e (p rg:Int):Prop:=(0≤p∧p≤16384)∧(rg=0∨(33290≤rg∧rg≤262144))
instance (p rg:Int):Decidable (z9e p rg):=by unfold z9e;exact inferInstance
end Go.Sym.Z

namespace Go.Sym.Z
open Go Go.Proofs.Tryz Go.Sym.Lp Go.Sym.Cha Go.Sym.Sha Go.Sym.Hk Go.Sym.Gcm
set_option maxRecDepth 100000
attribute [local irreducible] zaf exF kyF ivF y0 xo yw inL ncF lnz iA hA hN hK hdF yt zan
end Go.Sym.Z

namespace Go.Sym.Z
open Go Go.Proofs.Tryz Go.Sym.Lp Go.Sym.Cha Go.Sym.Sha Go.Sym.Hk Go.Sym.Gcm
set_option maxRecDepth 100000
attribute [local irreducible] zaf exF kyF ivF y0 xo yw inL ncF iA hA hN hK hdF yt zan
end Go.Sym.Z

namespace Go.Sym.Z
open Go Go.Proofs.Tryz Go.Sym.Lp Go.Sym.Cha Go.Sym.Sha Go.Sym.Hk Go.Sym.Gcm
set_option maxRecDepth 100000
attribute [local irreducible] zaf exF kyF ivF y0 xo yw inL ncF iA hA hN hK hdF yt zan hT hR lnz
end Go.Sym.Z

namespace Go.Sym.Z
open Go Go.Proofs.Tryz Go.Sym.Lp Go.Sym.Cha Go.Sym.Sha Go.Sym.Hk Go.Sym.Gcm
set_option maxRecDepth 100000
def z4q (nt:Nat) (ty:List (Nat×TyI)) (fs:List (Nat×Spec)) (w:World) (rs:List Row):Ctx:={nt:=nt,ty:=ty,fn:=fs,E:=fun w'=>Ext (fun _=>False) w w',ext:=zir rs}
structure Kq where
  w:Int
  key:List UInt8
  iv:List UInt8
  m:Int
structure RQ where
  W:Option Kq
  R:Option Kq
  rm:Int
  held:List UInt8
  f:Int
def kOK (x:Option Kq) (B:Nat):Prop:= ∀k,x=some k→su k.w∧k.key.length=aSz k.w∧k.iv.length=12∧0≤k.m∧k.m≤(B:Int)
structure RI (q:RQ) (B:Nat):Prop where
  hW:kOK q.W B
  hR:kOK q.R B
  hm:0≤q.rm∧q.rm≤(B:Int)
  he:q.f= -1→ ∀k,q.R=some k→q.rm=k.m
  hf:q.f= -1∨0≤q.f
  hl:q.held.length≤B*281474976710656
theorem zrh {x:Option Kq} {B C:Nat} (h:kOK x B) (hBC:B≤C):kOK x C:=fun k hk=>by
  obtain ⟨h1,h2,h3,h4,h5⟩:=h k hk
  exact ⟨h1,h2,h3,h4,by omega⟩
theorem RI.mono {q:RQ} {B C:Nat} (h:RI q B) (hBC:B≤C):RI q C:=
  ⟨zrh h.hW hBC,zrh h.hR hBC,⟨h.hm.1,by have:=h.hm.2;omega⟩,h.he,h.hf,Nat.le_trans h.hl (Nat.mul_le_mul_right _ hBC)⟩
def kB (k:Kq):Blk:= .mk 103 [.int k.w,.str k.key,.str k.iv,.int k.m]
attribute [local irreducible] zaf exF kyF ivF y0 xo yw inL ncF lnz iA hA hN hK yt zan hO hP hR hT iK hdF
end Go.Sym.Z

namespace Go.Sym
end Go.Sym

namespace Go.Sym.Z
open Go Go.Proofs.Tryz Go.Sym.Lp Go.Sym.Cha Go.Sym.Sha Go.Sym.Hk Go.Sym.Gcm
set_option maxRecDepth 100000
structure JQ (i:Nat) (F:Int→Int→List UInt8→Int→RQ) where
  k:Nat
  bm:Int
  rm:Int
  held:List UInt8
  f:Int
  hk:k≤30
  hq:RI (F bm rm held f) (31*i+1+k)
attribute [local irreducible] zaf exF kyF ivF y0 xo yw inL ncF lnz iA hA hN hK yt zan hO hP hR hT iK hdF
end Go.Sym.Z

namespace Go.Sym.Z
open Go Go.Proofs.Tryz Go.Sym.Lp Go.Sym.Cha Go.Sym.Sha Go.Sym.Hk Go.Sym.Gcm
set_option maxRecDepth 100000
attribute [local irreducible] zaf exF kyF ivF y0 xo yw inL ncF lnz iA hA hN hK yt zan hO hP hR hT iK hdF
end Go.Sym.Z

namespace Go.Sym.Z
open Go Go.Proofs.Tryz Go.Sym.Lp Go.Sym.Cha Go.Sym.Sha Go.Sym.Hk Go.Sym.Gcm
set_option maxRecDepth 100000
structure OQ (n:Nat) where
  i:Nat
  hn:i≤n
  h40:i≤40
  q:RQ
  hq:RI q (31*i)
attribute [local irreducible] zaf exF kyF ivF y0 xo yw inL ncF lnz iA hA hN hK yt zan hO hP hR hT iK hdF
end Go.Sym.Z
