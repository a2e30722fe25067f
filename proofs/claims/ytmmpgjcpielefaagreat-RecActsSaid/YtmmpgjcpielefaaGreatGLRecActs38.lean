/-
  Contracts of functions of the program, each said of symbolic values, and plain laws; no condition beyond each statement's own.
-/
import Derived.Test.YtmmpgjcpielefaaGreatGLRecActs32
import Derived.Test.YtmmpgjcpielefaaGreatGLRecActs37
set_option linter.unusedSimpArgs false
set_option linter.unusedVariables false
namespace Go.Sym.Z
open Go Go.Proofs.Tryz Go.Sym.Lp Go.Sym.Gcm Go.Sym.Aes Go.Sym.Pol Go.Sym.Cha
set_option maxRecDepth 100000
attribute [local irreducible] za1 yv zg5 zev zfm xg zau y0 gst gtg gW gR gH xi
def zxs:Spec:=fun args hp K=>match args,hp with
  | [.agg [.sl 0 0 0 [] n c,.nilsl]],[.mk t [.arr8 m l]]=>Pre (n=l.length∧0<n∧n≤100000)
      (zdc fun x:List UInt8=>K (.sl 1 0 0 [] n (n+x.length)) [.mk t [.arr8 m l],.mk 5 [.arr8 (n+x.length) (l++x)]])
  |_,_=>False
theorem ya1:zp prog 89 zxs:=by
  refine zm zdz zi rfl func89 rfl call89 (D:=yln) ?_ ?_
  ·intro args hp K h
   unfold zxs at h
   split at h
   ·exact Nat.le_of_ble_eq_true rfl
   ·exact h.elim
  ·intro args hp K h
   unfold zxs at h
   split at h
   ·rename_i n c t m l
    obtain ⟨⟨ha,h0,h1⟩,h⟩:=zn h
    have hla:(List.take n (List.drop (off []) l)).length=n:=by rw [List.length_take,List.length_drop];show min n (l.length-0)=n;omega
    have hle:List.take n (List.drop (off []) l)=l:=List.take_of_length_le (by show (List.drop 0 l).length≤n;rw [List.drop_zero];omega)
    refine za ?_
    refine y3 fun t1=>?_
    refine za ?_
    refine zr ⟨by omega,by rw [List.length_append],by show _+0≤_;omega⟩ ?_
    refine za ?_
    refine y3 fun t2=>?_
    have h:=zby h t2
    refine za ?_
    rw [List.take_left' rfl,hle,List.length_nil,Nat.add_zero,List.append_nil,←ha]
    conv=>whnf
    exact zd [0,3] h
   ·exact h.elim
def zp0:Spec:=fun args hp K=>match args,hp with
  | [.agg [.sl 0 0 0 [] n c,.nilsl],.sl 1 0 0 [] N c2],[.mk t [.arr8 m l],.mk t2 [.arr8 M s]]=>Pre (N=n∧n=l.length∧0<n∧n≤100000∧n≤s.length∧n≤c2)
      (K (.tup []) [.mk t [.arr8 m (s.take n)],.mk t2 [.arr8 M s]])
  |_,_=>False
theorem z26:zp prog 93 zp0:=by
  refine zm zdz zi rfl func93 rfl call93 (D:=yla) ?_ ?_
  ·intro args hp K h
   unfold zp0 at h
   split at h
   ·exact Nat.le_of_ble_eq_true rfl
   ·exact h.elim
  ·intro args hp K h
   unfold zp0 at h
   split at h
   ·rename_i n c N c2 t m l t2 M s
    obtain ⟨⟨hN,ha,h0,h1,hs,hc⟩,h'⟩:=zn h
    clear h
    subst hN
    have hl1:(List.take N (List.drop (off []) s)).length=N:=by rw [List.length_take,List.length_drop];show min N (s.length-0)=N;omega
    have hmn:(((min (List.take N (List.drop (off []) s)).length N:Nat):Int)).toNat=N:=by rw [hl1];omega
    have hsl:off (yd [] (slO c2 N) ty5.sz)+(N-N)≤s.length:=by
      rw [zy]
      show 0+slO c2 N*1+_≤_
      unfold slO;split<;>omega
    refine za ?_
    have hEq:z9 l (off []) (List.take (min (List.take N (List.drop (off []) s)).length N) (List.take N (List.drop (off []) s)))=s.take N:=by
      rw [hl1,Nat.min_self]
      have e1:List.take N (List.take N (List.drop (off []) s))=s.take N:=by rw [List.take_take,Nat.min_self];rfl
      rw [e1]
      unfold z9
      have e2:(s.take N).length=N:=by rw [List.length_take];omega
      show List.take 0 l++s.take N++List.drop (0+(s.take N).length) l=s.take N
      rw [e2,List.take_zero,List.nil_append,Nat.zero_add,List.drop_eq_nil_of_le (by omega),List.append_nil]
    rw [hmn]
    refine za ?_
    refine y5 (hp':= [.mk t [.arr8 m (s.take N)],.mk t2 [.arr8 M s]]) [0,1] h' ?_
    repeat ((conv=>whnf);refine zb ?_)
    conv=>whnf
    exact zl (congrArg (fun y=>SV.agg [SV.arr8 m y]) hEq)
   ·exact h.elim
def znx:Spec:=fun args hp K=>match args,hp with
  | [.int w,.str key,.str nonce,.str aad,.sl 0 0 0 [] n c,.nilsl],[.mk t [.arr8 m l]]=>Pre (n=l.length∧16≤n∧zoi w key nonce aad ((n:Int)+0-16))
      (K (.int 0) [.mk t [.arr8 m (xi w key nonce aad (l.take (n-16)))]])
  |_,_=>False
set_option maxHeartbeats 4000000 in
theorem z11:zp prog 66 znx:=by
  refine zm zdz (zc z7b (zc ya1 (zc zvx (zc ydf (zc yee (zc z26 zi)))))) rfl func66 rfl call66 (D:=ykb) ?_ ?_
  ·intro args hp K h
   unfold znx at h
   split at h
   ·exact Nat.le_of_ble_eq_true rfl
   ·exact h.elim
  ·intro args hp K h
   unfold znx at h
   split at h
   ·rename_i w key nonce aad n c t m l
    obtain ⟨⟨hnl,h16,h0⟩,h⟩:=zn h
    have hd:decide (zd9 w key.length∧nonce.length=12∧aad.length≤65536∧(n:Int)+0-16≤65536)=true:=decide_eq_true (by unfold zoi at h0;exact h0)
    unfold zoi at h0
    obtain ⟨hk,h1,h2,h3⟩:=h0
    unfold zd9 at hk
    have hnn:((n:Int)+0-16).toNat=n-16:=by omega
    have hpj:n=l.length∧0<n∧n≤100000:=⟨hnl,by omega,by omega⟩
    by_cases h4:w=4867
    ·repeat ((conv=>whnf);first|refine zq ?_|refine zg ?_|refine zf ?_|refine zb ?_|refine zr (by first|exact hd|(rw [hd];rfl)) ?_|refine zj (by first|exact hd|(rw [hd];rfl)) ?_|refine zk (by first|exact hd|(rw [hd];rfl)) ?_)
     conv=>whnf
     refine y3 fun x=>?_
     have hRl:(l++x).length=n+x.length:=by rw [List.length_append,←hnl]
     have hT1:List.take ((n:Int)+0-16).toNat (l++x)=l.take (n-16):=by
       rw [hnn,List.take_append_of_le_length (by omega)]
     have hT3:List.drop ((n:Int)+0-16).toNat (l++x)=l.drop (n-16)++x:=by
       rw [hnn,List.drop_append_of_le_length (by omega)]
     have hStr:y0 w key nonce=xg key nonce 1:=by funext b;unfold y0;rw [if_pos h4]
     have hX:(xg key nonce (UInt32.ofInt 1) (List.take ((n:Int)+0-16).toNat (l++x))++List.drop ((n:Int)+0-16).toNat (l++x))=y0 w key nonce (l.take (n-16))++(l.drop (n-16)++x):=by
       rw [hT1,hT3,hStr];rfl
     have hXl:(xg key nonce (UInt32.ofInt 1) (List.take ((n:Int)+0-16).toNat (l++x))++List.drop ((n:Int)+0-16).toNat (l++x)).length=n+x.length:=by
       rw [hX,List.length_append,List.length_append,xu,List.length_take,List.length_drop]
       omega
     have hof:(off (yd [] (slO (n+x.length) ((n:Int)+0-16).toNat) ty5.sz))=n-16:=by rw [hnn,zy,xx (by omega)];show 0+(n-16)*1=_;omega
     have hpo:(off (yd [] (slO (n+x.length) ((n:Int)+0-16).toNat) ty5.sz))+(n-((n:Int)+0-16).toNat)≤(xg key nonce (UInt32.ofInt 1) (List.take ((n:Int)+0-16).toNat (l++x))++List.drop ((n:Int)+0-16).toNat (l++x)).length:=by rw [hof,hXl,hnn];omega
     have hA1:List.take ((n:Int)+0-16).toNat (xg key nonce (UInt32.ofInt 1) (List.take ((n:Int)+0-16).toNat (l++x))++List.drop ((n:Int)+0-16).toNat (l++x))=y0 w key nonce (l.take (n-16)):=by
       rw [hX];exact List.take_left' (by rw [xu,List.length_take,hnn];omega)
     have hTg:(yv key nonce aad (List.take ((n:Int)+0-16).toNat (xg key nonce (UInt32.ofInt 1) (List.take ((n:Int)+0-16).toNat (l++x))++List.drop ((n:Int)+0-16).toNat (l++x))))=zau w key nonce aad (y0 w key nonce (l.take (n-16))):=by
       rw [hA1];unfold zau;rw [if_pos h4]
     have hTl:(yv key nonce aad (List.take ((n:Int)+0-16).toNat (xg key nonce (UInt32.ofInt 1) (List.take ((n:Int)+0-16).toNat (l++x))++List.drop ((n:Int)+0-16).toNat (l++x)))).length=16:=by rw [hTg,zch]
     have hpx:key.length=32∧nonce.length=12∧((n:Int)+0-16).toNat≤(l++x).length∧((n:Int)+0-16).toNat≤n+x.length∧((n:Int)+0-16).toNat≤9223372036854775807:=⟨by omega,h1,by omega,by omega,by omega⟩
     have hpt:key.length=32∧nonce.length=12∧aad.length≤65536∧((n:Int)+0-16).toNat≤65536∧((n:Int)+0-16).toNat≤(xg key nonce (UInt32.ofInt 1) (List.take ((n:Int)+0-16).toNat (l++x))++List.drop ((n:Int)+0-16).toNat (l++x)).length∧((n:Int)+0-16).toNat≤n+x.length:=⟨by omega,h1,h2,by omega,by omega,by omega⟩
     have hSp:(z9 (xg key nonce (UInt32.ofInt 1) (List.take ((n:Int)+0-16).toNat (l++x))++List.drop ((n:Int)+0-16).toNat (l++x)) (off (yd [] (slO (n+x.length) ((n:Int)+0-16).toNat) ty5.sz)) (List.take (min (yv key nonce aad (List.take ((n:Int)+0-16).toNat (xg key nonce (UInt32.ofInt 1) (List.take ((n:Int)+0-16).toNat (l++x))++List.drop ((n:Int)+0-16).toNat (l++x)))).length (n-((n:Int)+0-16).toNat)) (yv key nonce aad (List.take ((n:Int)+0-16).toNat (xg key nonce (UInt32.ofInt 1) (List.take ((n:Int)+0-16).toNat (l++x))++List.drop ((n:Int)+0-16).toNat (l++x))))))=xi w key nonce aad (l.take (n-16))++x:=by
       rw [hTl,show min 16 (n-((n:Int)+0-16).toNat)=16 by omega,List.take_of_length_le (Nat.le_of_eq hTl),hTg,hof,hX,zb8]
       unfold z9
       rw [zch,List.take_left' (by rw [xu,List.length_take];omega),←List.append_assoc (y0 w key nonce _),List.drop_left' (by rw [List.length_append,xu,List.length_take,List.length_drop];omega)]
     have hAl:(xi w key nonce aad (l.take (n-16))).length=n:=by
       rw [zb8,List.length_append,zch,xu,List.length_take];omega
     have hSpl:(z9 (xg key nonce (UInt32.ofInt 1) (List.take ((n:Int)+0-16).toNat (l++x))++List.drop ((n:Int)+0-16).toNat (l++x)) (off (yd [] (slO (n+x.length) ((n:Int)+0-16).toNat) ty5.sz)) (List.take (min (yv key nonce aad (List.take ((n:Int)+0-16).toNat (xg key nonce (UInt32.ofInt 1) (List.take ((n:Int)+0-16).toNat (l++x))++List.drop ((n:Int)+0-16).toNat (l++x)))).length (n-((n:Int)+0-16).toNat)) (yv key nonce aad (List.take ((n:Int)+0-16).toNat (xg key nonce (UInt32.ofInt 1) (List.take ((n:Int)+0-16).toNat (l++x))++List.drop ((n:Int)+0-16).toNat (l++x)))))).length=n+x.length:=by rw [hSp,List.length_append,hAl]
     have hps:n=n∧n=l.length∧0<n∧n≤100000∧n≤(z9 (xg key nonce (UInt32.ofInt 1) (List.take ((n:Int)+0-16).toNat (l++x))++List.drop ((n:Int)+0-16).toNat (l++x)) (off (yd [] (slO (n+x.length) ((n:Int)+0-16).toNat) ty5.sz)) (List.take (min (yv key nonce aad (List.take ((n:Int)+0-16).toNat (xg key nonce (UInt32.ofInt 1) (List.take ((n:Int)+0-16).toNat (l++x))++List.drop ((n:Int)+0-16).toNat (l++x)))).length (n-((n:Int)+0-16).toNat)) (yv key nonce aad (List.take ((n:Int)+0-16).toNat (xg key nonce (UInt32.ofInt 1) (List.take ((n:Int)+0-16).toNat (l++x))++List.drop ((n:Int)+0-16).toNat (l++x)))))).length∧n≤n+x.length:=⟨rfl,hnl,by omega,by omega,by omega,by omega⟩
     have hpj:n=l.length∧0<n∧n≤100000:=⟨hnl,by omega,by omega⟩
     refine za ?_
     refine y5 (hp':= [.mk t [.arr8 m (xi w key nonce aad (l.take (n-16)))]]) [0] h ?_
     repeat ((conv=>whnf);refine zb ?_)
     conv=>whnf
     exact zl (congrArg (fun y=>SV.agg [SV.arr8 m y]) (by rw [hSp];exact List.take_left' hAl))
    ·repeat ((conv=>whnf);first|refine zq ?_|refine zg ?_|refine zf ?_|refine zb ?_|refine zr (by first|exact hd|(rw [hd];rfl)) ?_|refine zj (by first|exact hd|(rw [hd];rfl)) ?_|refine zk (by first|exact hd|(rw [hd];rfl)) ?_)
     conv=>whnf
     refine y3 fun x=>?_
     have hRl:(l++x).length=n+x.length:=by rw [List.length_append,←hnl]
     have hT1:List.take ((n:Int)+0-16).toNat (l++x)=l.take (n-16):=by
       rw [hnn,List.take_append_of_le_length (by omega)]
     have hT3:List.drop ((n:Int)+0-16).toNat (l++x)=l.drop (n-16)++x:=by
       rw [hnn,List.drop_append_of_le_length (by omega)]
     have hStr:y0 w key nonce=zfm key nonce:=by funext b;unfold y0;rw [if_neg h4]
     have hX:(gst (gW key) (gR key) nonce 2 (List.take ((n:Int)+0-16).toNat (l++x))++List.drop ((n:Int)+0-16).toNat (l++x))=y0 w key nonce (l.take (n-16))++(l.drop (n-16)++x):=by
       rw [hT1,hT3,hStr];unfold zfm;rfl
     have hXl:(gst (gW key) (gR key) nonce 2 (List.take ((n:Int)+0-16).toNat (l++x))++List.drop ((n:Int)+0-16).toNat (l++x)).length=n+x.length:=by
       rw [hX,List.length_append,List.length_append,xu,List.length_take,List.length_drop]
       omega
     have hof:(off (yd [] (slO (n+x.length) ((n:Int)+0-16).toNat) ty5.sz))=n-16:=by rw [hnn,zy,xx (by omega)];show 0+(n-16)*1=_;omega
     have hpo:(off (yd [] (slO (n+x.length) ((n:Int)+0-16).toNat) ty5.sz))+(n-((n:Int)+0-16).toNat)≤(gst (gW key) (gR key) nonce 2 (List.take ((n:Int)+0-16).toNat (l++x))++List.drop ((n:Int)+0-16).toNat (l++x)).length:=by rw [hof,hXl,hnn];omega
     have hA1:List.take ((n:Int)+0-16).toNat (gst (gW key) (gR key) nonce 2 (List.take ((n:Int)+0-16).toNat (l++x))++List.drop ((n:Int)+0-16).toNat (l++x))=y0 w key nonce (l.take (n-16)):=by
       rw [hX];exact List.take_left' (by rw [xu,List.length_take,hnn];omega)
     have hTg:(gtg (gW key) (gR key) ((gH (gW key) (gR key)).1,(gH (gW key) (gR key)).2) nonce aad (List.take ((n:Int)+0-16).toNat (gst (gW key) (gR key) nonce 2 (List.take ((n:Int)+0-16).toNat (l++x))++List.drop ((n:Int)+0-16).toNat (l++x))))=zau w key nonce aad (y0 w key nonce (l.take (n-16))):=by
       rw [hA1];unfold zau;rw [if_neg h4];unfold zev;rfl
     have hTl:(gtg (gW key) (gR key) ((gH (gW key) (gR key)).1,(gH (gW key) (gR key)).2) nonce aad (List.take ((n:Int)+0-16).toNat (gst (gW key) (gR key) nonce 2 (List.take ((n:Int)+0-16).toNat (l++x))++List.drop ((n:Int)+0-16).toNat (l++x)))).length=16:=by rw [hTg,zch]
     have hWl:=zqe (key:=key) (by omega)
     have hR7:gR key=key.length/ 4+7:=by unfold gR;rfl
     have hpx:box=box∧nonce.length=12∧1≤gR key∧gR key≤100∧16*gR key≤(gW key).length∧((n:Int)+0-16).toNat≤(l++x).length∧((n:Int)+0-16).toNat≤n+x.length∧((n:Int)+0-16).toNat≤9223372036854775807:=⟨rfl,h1,by omega,by omega,by omega,by omega,by omega,by omega⟩
     have hpt:box=box∧nonce.length=12∧1≤gR key∧gR key≤100∧16*gR key≤(gW key).length∧((n:Int)+0-16).toNat≤(gst (gW key) (gR key) nonce 2 (List.take ((n:Int)+0-16).toNat (l++x))++List.drop ((n:Int)+0-16).toNat (l++x)).length∧((n:Int)+0-16).toNat≤n+x.length∧aad.length≤65536∧((n:Int)+0-16).toNat≤70000:=⟨rfl,h1,by omega,by omega,by omega,by omega,by omega,h2,by omega⟩
     have hSp:(z9 (gst (gW key) (gR key) nonce 2 (List.take ((n:Int)+0-16).toNat (l++x))++List.drop ((n:Int)+0-16).toNat (l++x)) (off (yd [] (slO (n+x.length) ((n:Int)+0-16).toNat) ty5.sz)) (List.take (min (gtg (gW key) (gR key) ((gH (gW key) (gR key)).1,(gH (gW key) (gR key)).2) nonce aad (List.take ((n:Int)+0-16).toNat (gst (gW key) (gR key) nonce 2 (List.take ((n:Int)+0-16).toNat (l++x))++List.drop ((n:Int)+0-16).toNat (l++x)))).length (n-((n:Int)+0-16).toNat)) (gtg (gW key) (gR key) ((gH (gW key) (gR key)).1,(gH (gW key) (gR key)).2) nonce aad (List.take ((n:Int)+0-16).toNat (gst (gW key) (gR key) nonce 2 (List.take ((n:Int)+0-16).toNat (l++x))++List.drop ((n:Int)+0-16).toNat (l++x))))))=xi w key nonce aad (l.take (n-16))++x:=by
       rw [hTl,show min 16 (n-((n:Int)+0-16).toNat)=16 by omega,List.take_of_length_le (Nat.le_of_eq hTl),hTg,hof,hX,zb8]
       unfold z9
       rw [zch,List.take_left' (by rw [xu,List.length_take];omega),←List.append_assoc (y0 w key nonce _),List.drop_left' (by rw [List.length_append,xu,List.length_take,List.length_drop];omega)]
     have hAl:(xi w key nonce aad (l.take (n-16))).length=n:=by
       rw [zb8,List.length_append,zch,xu,List.length_take];omega
     have hSpl:(z9 (gst (gW key) (gR key) nonce 2 (List.take ((n:Int)+0-16).toNat (l++x))++List.drop ((n:Int)+0-16).toNat (l++x)) (off (yd [] (slO (n+x.length) ((n:Int)+0-16).toNat) ty5.sz)) (List.take (min (gtg (gW key) (gR key) ((gH (gW key) (gR key)).1,(gH (gW key) (gR key)).2) nonce aad (List.take ((n:Int)+0-16).toNat (gst (gW key) (gR key) nonce 2 (List.take ((n:Int)+0-16).toNat (l++x))++List.drop ((n:Int)+0-16).toNat (l++x)))).length (n-((n:Int)+0-16).toNat)) (gtg (gW key) (gR key) ((gH (gW key) (gR key)).1,(gH (gW key) (gR key)).2) nonce aad (List.take ((n:Int)+0-16).toNat (gst (gW key) (gR key) nonce 2 (List.take ((n:Int)+0-16).toNat (l++x))++List.drop ((n:Int)+0-16).toNat (l++x)))))).length=n+x.length:=by rw [hSp,List.length_append,hAl]
     have hps:n=n∧n=l.length∧0<n∧n≤100000∧n≤(z9 (gst (gW key) (gR key) nonce 2 (List.take ((n:Int)+0-16).toNat (l++x))++List.drop ((n:Int)+0-16).toNat (l++x)) (off (yd [] (slO (n+x.length) ((n:Int)+0-16).toNat) ty5.sz)) (List.take (min (gtg (gW key) (gR key) ((gH (gW key) (gR key)).1,(gH (gW key) (gR key)).2) nonce aad (List.take ((n:Int)+0-16).toNat (gst (gW key) (gR key) nonce 2 (List.take ((n:Int)+0-16).toNat (l++x))++List.drop ((n:Int)+0-16).toNat (l++x)))).length (n-((n:Int)+0-16).toNat)) (gtg (gW key) (gR key) ((gH (gW key) (gR key)).1,(gH (gW key) (gR key)).2) nonce aad (List.take ((n:Int)+0-16).toNat (gst (gW key) (gR key) nonce 2 (List.take ((n:Int)+0-16).toNat (l++x))++List.drop ((n:Int)+0-16).toNat (l++x)))))).length∧n≤n+x.length:=⟨rfl,hnl,by omega,by omega,by omega,by omega⟩
     have hpj:n=l.length∧0<n∧n≤100000:=⟨hnl,by omega,by omega⟩
     refine za ?_
     refine y5 (hp':= [.mk t [.arr8 m (xi w key nonce aad (l.take (n-16)))]]) [0] h ?_
     repeat ((conv=>whnf);refine zb ?_)
     conv=>whnf
     exact zl (congrArg (fun y=>SV.agg [SV.arr8 m y]) (by rw [hSp];exact List.take_left' hAl))
   ·exact h.elim
end Go.Sym.Z

namespace Go.Sym.Z
open Go Go.Proofs.Tryz Go.Sym.Lp Go.Sym.Cha Go.Sym.Sha Go.Sym.Hk
set_option maxRecDepth 100000
attribute [local irreducible] za2 exF kyF ivF xi zau y0 inL ncF hdF
def yju:List (Nat×List PStep):= [(10,[⟨0,[]⟩,⟨1,[]⟩,⟨2,[]⟩,⟨3,[]⟩,⟨4,[0,1,2,3]⟩,⟨5,[0,1,2,3]⟩,⟨6,[0,1,2,3]⟩,⟨7,[0,1,2,3]⟩,⟨8,[0,1,2,3,4,5,6,7]⟩,⟨10,[0,1,2,3,4,5,6,7,8]⟩,⟨11,[0,1,2,3,4,5,6,7,8,10]⟩,⟨9,[0,1,2,3,4,5,6,7,10,11]⟩,⟨12,[]⟩,⟨13,[]⟩])]
def yj8:List (Nat×List PStep):= []
theorem zb6 (k n:Int):(hdF k n).length=5:=by unfold hdF;rfl
theorem zjk {p n:Int} (hn0:0≤n) (hn:n≤16384) (hp:0≤p):n+1≤inL p n∧inL p n≤16385:=by
  unfold inL
  split
  ·rename_i h0
   have h:=Int.lt_ediv_add_one_mul_self (n+1+p-1) h0
   rw [Int.add_mul,Int.one_mul] at h
   omega
  ·omega
def zao (p:Int) (kind:Int) (s:List UInt8):List UInt8:=s++UInt8.ofInt kind ::List.replicate ((inL p s.length).toNat-s.length-1) 0
def yq (p w:Int) (key iv:List UInt8) (m kind:Int) (s:List UInt8):List UInt8:=
  hdF 23 ((inL p s.length)+16)++xi w key (ncF iv m) (hdF 23 ((inL p s.length)+16)) (zao p kind s)
def za3 (w:Int) (key iv:List UInt8) (m:Int):Prop:=su w∧key.length=aSz w∧iv.length=12∧0≤m∧m≤1000000000
theorem zgu {w:Int} {key iv:List UInt8} {m:Int} (h:za3 w key iv m):zd9 w key.length:=by
  obtain ⟨h1,h2,_⟩:=h
  rw [h2]
  unfold zd9 aSz
  rcases h1 with e|e|e<;>subst e<;>simp
theorem zxh {L:Nat} {s:List UInt8} (h:s.length+1≤L) (k:UInt8) {i:Nat} (hi:i=s.length):(z9 (List.replicate (L+16) 0) (off []) (List.take (min s.length (L+16)) s)).set i k=s++k ::List.replicate (L+16-s.length-1) 0:=by
  subst hi
  rw [List.take_of_length_le (show s.length≤min s.length (L+16) by omega)]
  unfold z9
  show (List.take 0 _++s++List.drop (0+s.length) _).set _ _=_
  rw [List.take_zero,List.nil_append,List.drop_replicate,Nat.zero_add,List.set_append_right _ _ (Nat.le_refl _),Nat.sub_self,show L+16-s.length=(L+16-s.length-1)+1 by omega,List.replicate_succ]
  rfl
theorem zpm {L:Nat} {s:List UInt8} (h:s.length+1≤L) (k:UInt8):(s++k ::List.replicate (L+16-s.length-1) 0).take L=s++k ::List.replicate (L-s.length-1) 0:=by
  rw [List.take_append,List.take_of_length_le (by omega),show L-s.length=(L-s.length-1)+1 by omega,List.take_succ_cons,List.take_replicate]
  congr 3
  omega
def zx8:Spec:=fun args hp K=>match args,hp with
  | [.ptr 0 0 0 [],.int kind,.str s],[.mk t0 [.int p,.nilptr,.nilptr,.str held,.int f]]=>Pre (s.length≤140737488351232) (zx (decide (yf kind∧s.length≤16384)) (K (.tup [.str (hdF kind s.length++s),.int 0]) [.mk t0 [.int p,.nilptr,.nilptr,.str held,.int f]]) (K (.tup [.str [],.int 2100]) [.mk t0 [.int p,.nilptr,.nilptr,.str held,.int f]]))
  | [.ptr 0 0 0 [],.int kind,.str s],[.mk t0 [.int p,.nilptr,.ptr 1 0 0 [],.str held,.int f],.mk tkb [.int bw,.str bkey,.str biv,.int bm]]=>Pre (s.length≤140737488351232) (zx (decide (yf kind∧s.length≤16384)) (K (.tup [.str (hdF kind s.length++s),.int 0]) [.mk t0 [.int p,.nilptr,.ptr 1 0 0 [],.str held,.int f],.mk tkb [.int bw,.str bkey,.str biv,.int bm]]) (K (.tup [.str [],.int 2100]) [.mk t0 [.int p,.nilptr,.ptr 1 0 0 [],.str held,.int f],.mk tkb [.int bw,.str bkey,.str biv,.int bm]]))
  | [.ptr 0 0 0 [],.int kind,.str s],[.mk t0 [.int p,.ptr 1 0 0 [],.nilptr,.str held,.int f],.mk tka [.int aw,.str akey,.str aiv,.int am]]=>Pre (za3 aw akey aiv am∧0≤p∧p≤16384∧s.length≤140737488351232) (zx (decide (yf kind∧s.length≤16384)) (K (.tup [.str (yq p aw akey aiv am kind s),.int 0]) [.mk t0 [.int p,.ptr 1 0 0 [],.nilptr,.str held,.int f],.mk tka [.int aw,.str akey,.str aiv,.int (am+1)]]) (K (.tup [.str [],.int 2100]) [.mk t0 [.int p,.ptr 1 0 0 [],.nilptr,.str held,.int f],.mk tka [.int aw,.str akey,.str aiv,.int am]]))
  | [.ptr 0 0 0 [],.int kind,.str s],[.mk t0 [.int p,.ptr 1 0 0 [],.ptr 2 0 0 [],.str held,.int f],.mk tka [.int aw,.str akey,.str aiv,.int am],.mk tkb [.int bw,.str bkey,.str biv,.int bm]]=>Pre (za3 aw akey aiv am∧0≤p∧p≤16384∧s.length≤140737488351232) (zx (decide (yf kind∧s.length≤16384)) (K (.tup [.str (yq p aw akey aiv am kind s),.int 0]) [.mk t0 [.int p,.ptr 1 0 0 [],.ptr 2 0 0 [],.str held,.int f],.mk tka [.int aw,.str akey,.str aiv,.int (am+1)],.mk tkb [.int bw,.str bkey,.str biv,.int bm]]) (K (.tup [.str [],.int 2100]) [.mk t0 [.int p,.ptr 1 0 0 [],.ptr 2 0 0 [],.str held,.int f],.mk tka [.int aw,.str akey,.str aiv,.int am],.mk tkb [.int bw,.str bkey,.str biv,.int bm]]))
  |_,_=>False
set_option maxHeartbeats 4000000 in
theorem ybi:zp prog 45 zx8:=by
  refine zm y6 (zc z1n (zc yb8 (zc z5p (zc z0k (zc z11 zi))))) rfl func45 rfl call45 (D:=yju) ?_ ?_
  ·intro args hp K h
   unfold zx8 at h
   split at h
   ·exact Nat.le_of_ble_eq_true rfl
   ·exact Nat.le_of_ble_eq_true rfl
   ·exact Nat.le_of_ble_eq_true rfl
   ·exact Nat.le_of_ble_eq_true rfl
   ·exact h.elim
  ·intro args hp K h
   unfold zx8 at h
   split at h
   ·rename_i kind s t0 p held f
    obtain ⟨hs,h⟩:=zn h
    obtain ⟨ht,hf⟩:=zw h
    by_cases hk:yf kind
    ·have dk:=decide_eq_true hk
     by_cases hl:s.length≤16384
     ·have h:=ht (decide_eq_true ⟨hk,hl⟩)
      have hhl:=zb6 kind s.length
      repeat ((conv=>whnf);first|refine zq ?_|refine zg ?_|refine zf ?_|refine zb ?_|refine zr (by first|exact dk|(rw [dk];rfl)) ?_|refine zj (by first|exact dk|(rw [dk];rfl)) ?_|refine zk (by first|exact dk|(rw [dk];rfl)) ?_)
      conv=>whnf
      exact zd [0] h
     ·have h:=hf (decide_eq_false fun hh=>hl hh.2)
      repeat ((conv=>whnf);first|refine zq ?_|refine zg ?_|refine zf ?_|refine zb ?_|refine zr (by first|exact dk|(rw [dk];rfl)) ?_|refine zj (by first|exact dk|(rw [dk];rfl)) ?_|refine zk (by first|exact dk|(rw [dk];rfl)) ?_)
      conv=>whnf
      exact zd [0] h
    ·have dk:=decide_eq_false hk
     have h:=hf (decide_eq_false fun hh=>hk hh.1)
     repeat ((conv=>whnf);first|refine zq ?_|refine zg ?_|refine zf ?_|refine zb ?_|refine zr (by first|exact dk|(rw [dk];rfl)) ?_|refine zj (by first|exact dk|(rw [dk];rfl)) ?_|refine zk (by first|exact dk|(rw [dk];rfl)) ?_)
     conv=>whnf
     exact zd [0] h
   ·rename_i kind s t0 p held f tkb bw bkey biv bm
    obtain ⟨hs,h⟩:=zn h
    obtain ⟨ht,hf⟩:=zw h
    by_cases hk:yf kind
    ·have dk:=decide_eq_true hk
     by_cases hl:s.length≤16384
     ·have h:=ht (decide_eq_true ⟨hk,hl⟩)
      have hhl:=zb6 kind s.length
      repeat ((conv=>whnf);first|refine zq ?_|refine zg ?_|refine zf ?_|refine zb ?_|refine zr (by first|exact dk|(rw [dk];rfl)) ?_|refine zj (by first|exact dk|(rw [dk];rfl)) ?_|refine zk (by first|exact dk|(rw [dk];rfl)) ?_)
      conv=>whnf
      exact zd [0,1] h
     ·have h:=hf (decide_eq_false fun hh=>hl hh.2)
      repeat ((conv=>whnf);first|refine zq ?_|refine zg ?_|refine zf ?_|refine zb ?_|refine zr (by first|exact dk|(rw [dk];rfl)) ?_|refine zj (by first|exact dk|(rw [dk];rfl)) ?_|refine zk (by first|exact dk|(rw [dk];rfl)) ?_)
      conv=>whnf
      exact zd [0,1] h
    ·have dk:=decide_eq_false hk
     have h:=hf (decide_eq_false fun hh=>hk hh.1)
     repeat ((conv=>whnf);first|refine zq ?_|refine zg ?_|refine zf ?_|refine zb ?_|refine zr (by first|exact dk|(rw [dk];rfl)) ?_|refine zj (by first|exact dk|(rw [dk];rfl)) ?_|refine zk (by first|exact dk|(rw [dk];rfl)) ?_)
     conv=>whnf
     exact zd [0,1] h
   ·rename_i kind s t0 p held f tka aw akey aiv am
    obtain ⟨⟨hok,hp0,hp1,hs⟩,h⟩:=zn h
    obtain ⟨ht,hf⟩:=zw h
    by_cases hk:yf kind
    ·have dk:=decide_eq_true hk
     by_cases hl:s.length≤16384
     ·have h:=ht (decide_eq_true ⟨hk,hl⟩)
      have hky:=zgu hok
      obtain ⟨hw,hkl,hiv,hm0,hm1⟩:=hok
      have hnl:=zk3 aiv am
      have hin:0≤(s.length:Int)∧(s.length:Int)≤16384∧0≤p∧p≤16384:=⟨by omega,by omega,hp0,hp1⟩
      obtain ⟨hi1,hi2⟩:=zjk (p:=p) (n:=(s.length:Int)) (by omega) (by omega) hp0
      obtain ⟨L,hL⟩: ∃L:Nat,inL p (s.length:Int)=(L:Int):=⟨_,(Int.toNat_of_nonneg (by omega)).symm⟩
      have hLn:(inL p (s.length:Int)).toNat=L:=by rw [hL];exact Int.toNat_natCast _
      unfold yq zao at h
      have hcast:(L:Int)+16=((L+16:Nat):Int):=by omega
      rw [hLn,hL,hcast] at h
      have hLt:((L:Int)+16).toNat=L+16:=by omega
      have hix:off (yd [] ((s.length:Int)).toNat ty5.sz)=s.length:=by rw [zy];show 0+((s.length:Int)).toNat*1=_;omega
      have hsl1:s.length+1≤L:=by omega
      have hB:=zxh (L:=L) (s:=s) hsl1 (UInt8.ofInt kind) hix
      obtain ⟨BB,hBB⟩: ∃BB,BB=s++UInt8.ofInt kind ::List.replicate (L+16-s.length-1) 0:=⟨_,rfl⟩
      have hBl:BB.length=L+16:=by rw [hBB,List.length_append,List.length_cons,List.length_replicate];omega
      have hBt:BB.take (L+16-16)=s++UInt8.ofInt kind ::List.replicate (L-s.length-1) 0:=by rw [hBB,Nat.add_sub_cancel];exact zpm hsl1 _
      rw [←hBB] at hB
      have hps:off (yd [] ((s.length:Int)).toNat ty5.sz)<(z9 (List.replicate (L+16) 0) (off []) (List.take (min s.length (L+16)) s)).length:=by
        have:=congrArg List.length hB
        rw [List.length_set] at this
        rw [hix];omega
      have hhl:=zb6 23 ((L+16:Nat):Int)
      have hAl:(xi aw akey (ncF aiv am) (hdF 23 ((L+16:Nat):Int)) (BB.take (L+16-16))).length=L+16:=by
        rw [zb8,List.length_append,zch,xu,List.length_take,hBl];omega
      have hpn:L+16=BB.length∧16≤L+16∧zoi aw akey (ncF aiv am) (hdF 23 ((L+16:Nat):Int)) (((L+16:Nat):Int)+0-16):=⟨hBl.symm,by omega,hky,by rw [hnl,hiv],by omega,by omega⟩
      rw [←hBt] at h
      repeat ((conv=>whnf);first|refine zq ?_|refine zg ?_|refine zf ?_|refine zb ?_|refine zr (by first|exact dk|(rw [dk];rfl)) ?_|refine zj (by first|exact dk|(rw [dk];rfl)) ?_|refine zk (by first|exact dk|(rw [dk];rfl)) ?_)
      conv=>whnf
      rw [hL,hLt]
      refine za ?_
      rw [hB]
      have hpo:off []+(L+16)≤(xi aw akey (ncF aiv am) (hdF 23 ((L+16:Nat):Int)) (BB.take (L+16-16))).length:=by rw [hAl];show 0+_≤_;omega
      have hte:List.take (L+16) (List.drop (off []) (xi aw akey (ncF aiv am) (hdF 23 ((L+16:Nat):Int)) (BB.take (L+16-16))))=xi aw akey (ncF aiv am) (hdF 23 ((L+16:Nat):Int)) (BB.take (L+16-16)):=List.take_of_length_le (Nat.le_of_eq hAl)
      refine za ?_
      rw [hte]
      refine za ?_
      conv=>whnf
      exact zd [0,1] h
     ·have h:=hf (decide_eq_false fun hh=>hl hh.2)
      repeat ((conv=>whnf);first|refine zq ?_|refine zg ?_|refine zf ?_|refine zb ?_|refine zr (by first|exact dk|(rw [dk];rfl)) ?_|refine zj (by first|exact dk|(rw [dk];rfl)) ?_|refine zk (by first|exact dk|(rw [dk];rfl)) ?_)
      conv=>whnf
      exact zd [0,1] h
    ·have dk:=decide_eq_false hk
     have h:=hf (decide_eq_false fun hh=>hk hh.1)
     repeat ((conv=>whnf);first|refine zq ?_|refine zg ?_|refine zf ?_|refine zb ?_|refine zr (by first|exact dk|(rw [dk];rfl)) ?_|refine zj (by first|exact dk|(rw [dk];rfl)) ?_|refine zk (by first|exact dk|(rw [dk];rfl)) ?_)
     conv=>whnf
     exact zd [0,1] h
   ·rename_i kind s t0 p held f tka aw akey aiv am tkb bw bkey biv bm
    obtain ⟨⟨hok,hp0,hp1,hs⟩,h⟩:=zn h
    obtain ⟨ht,hf⟩:=zw h
    by_cases hk:yf kind
    ·have dk:=decide_eq_true hk
     by_cases hl:s.length≤16384
     ·have h:=ht (decide_eq_true ⟨hk,hl⟩)
      have hky:=zgu hok
      obtain ⟨hw,hkl,hiv,hm0,hm1⟩:=hok
      have hnl:=zk3 aiv am
      have hin:0≤(s.length:Int)∧(s.length:Int)≤16384∧0≤p∧p≤16384:=⟨by omega,by omega,hp0,hp1⟩
      obtain ⟨hi1,hi2⟩:=zjk (p:=p) (n:=(s.length:Int)) (by omega) (by omega) hp0
      obtain ⟨L,hL⟩: ∃L:Nat,inL p (s.length:Int)=(L:Int):=⟨_,(Int.toNat_of_nonneg (by omega)).symm⟩
      have hLn:(inL p (s.length:Int)).toNat=L:=by rw [hL];exact Int.toNat_natCast _
      unfold yq zao at h
      have hcast:(L:Int)+16=((L+16:Nat):Int):=by omega
      rw [hLn,hL,hcast] at h
      have hLt:((L:Int)+16).toNat=L+16:=by omega
      have hix:off (yd [] ((s.length:Int)).toNat ty5.sz)=s.length:=by rw [zy];show 0+((s.length:Int)).toNat*1=_;omega
      have hsl1:s.length+1≤L:=by omega
      have hB:=zxh (L:=L) (s:=s) hsl1 (UInt8.ofInt kind) hix
      obtain ⟨BB,hBB⟩: ∃BB,BB=s++UInt8.ofInt kind ::List.replicate (L+16-s.length-1) 0:=⟨_,rfl⟩
      have hBl:BB.length=L+16:=by rw [hBB,List.length_append,List.length_cons,List.length_replicate];omega
      have hBt:BB.take (L+16-16)=s++UInt8.ofInt kind ::List.replicate (L-s.length-1) 0:=by rw [hBB,Nat.add_sub_cancel];exact zpm hsl1 _
      rw [←hBB] at hB
      have hps:off (yd [] ((s.length:Int)).toNat ty5.sz)<(z9 (List.replicate (L+16) 0) (off []) (List.take (min s.length (L+16)) s)).length:=by
        have:=congrArg List.length hB
        rw [List.length_set] at this
        rw [hix];omega
      have hhl:=zb6 23 ((L+16:Nat):Int)
      have hAl:(xi aw akey (ncF aiv am) (hdF 23 ((L+16:Nat):Int)) (BB.take (L+16-16))).length=L+16:=by
        rw [zb8,List.length_append,zch,xu,List.length_take,hBl];omega
      have hpn:L+16=BB.length∧16≤L+16∧zoi aw akey (ncF aiv am) (hdF 23 ((L+16:Nat):Int)) (((L+16:Nat):Int)+0-16):=⟨hBl.symm,by omega,hky,by rw [hnl,hiv],by omega,by omega⟩
      rw [←hBt] at h
      repeat ((conv=>whnf);first|refine zq ?_|refine zg ?_|refine zf ?_|refine zb ?_|refine zr (by first|exact dk|(rw [dk];rfl)) ?_|refine zj (by first|exact dk|(rw [dk];rfl)) ?_|refine zk (by first|exact dk|(rw [dk];rfl)) ?_)
      conv=>whnf
      rw [hL,hLt]
      refine za ?_
      rw [hB]
      have hpo:off []+(L+16)≤(xi aw akey (ncF aiv am) (hdF 23 ((L+16:Nat):Int)) (BB.take (L+16-16))).length:=by rw [hAl];show 0+_≤_;omega
      have hte:List.take (L+16) (List.drop (off []) (xi aw akey (ncF aiv am) (hdF 23 ((L+16:Nat):Int)) (BB.take (L+16-16))))=xi aw akey (ncF aiv am) (hdF 23 ((L+16:Nat):Int)) (BB.take (L+16-16)):=List.take_of_length_le (Nat.le_of_eq hAl)
      refine za ?_
      rw [hte]
      refine za ?_
      conv=>whnf
      exact zd [0,1,2] h
     ·have h:=hf (decide_eq_false fun hh=>hl hh.2)
      repeat ((conv=>whnf);first|refine zq ?_|refine zg ?_|refine zf ?_|refine zb ?_|refine zr (by first|exact dk|(rw [dk];rfl)) ?_|refine zj (by first|exact dk|(rw [dk];rfl)) ?_|refine zk (by first|exact dk|(rw [dk];rfl)) ?_)
      conv=>whnf
      exact zd [0,1,2] h
    ·have dk:=decide_eq_false hk
     have h:=hf (decide_eq_false fun hh=>hk hh.1)
     repeat ((conv=>whnf);first|refine zq ?_|refine zg ?_|refine zf ?_|refine zb ?_|refine zr (by first|exact dk|(rw [dk];rfl)) ?_|refine zj (by first|exact dk|(rw [dk];rfl)) ?_|refine zk (by first|exact dk|(rw [dk];rfl)) ?_)
     conv=>whnf
     exact zd [0,1,2] h
   ·exact h.elim
def zsl:Spec:=fun args hp K=>match args,hp with
  | [.ptr 0 0 0 [],.int kind,.str s],[.mk t0 [.int p,.nilptr,.nilptr,.str held,.int f]]=>Pre (s.length≤140737488351232) (zx (decide (yf kind∧s.length≤16384)) (K (.tup [.str (hdF kind s.length++s),.int 0]) [.mk t0 [.int p,.nilptr,.nilptr,.str held,.int f]]) (K (.tup [.str [],.int 2100]) [.mk t0 [.int p,.nilptr,.nilptr,.str held,.int f]]))
  | [.ptr 0 0 0 [],.int kind,.str s],[.mk t0 [.int p,.nilptr,.ptr 1 0 0 [],.str held,.int f],.mk tkb [.int bw,.str bkey,.str biv,.int bm]]=>Pre (s.length≤140737488351232) (zx (decide (yf kind∧s.length≤16384)) (K (.tup [.str (hdF kind s.length++s),.int 0]) [.mk t0 [.int p,.nilptr,.ptr 1 0 0 [],.str held,.int f],.mk tkb [.int bw,.str bkey,.str biv,.int bm]]) (K (.tup [.str [],.int 2100]) [.mk t0 [.int p,.nilptr,.ptr 1 0 0 [],.str held,.int f],.mk tkb [.int bw,.str bkey,.str biv,.int bm]]))
  | [.ptr 0 0 0 [],.int kind,.str s],[.mk t0 [.int p,.ptr 1 0 0 [],.nilptr,.str held,.int f],.mk tka [.int aw,.str akey,.str aiv,.int am]]=>Pre (za3 aw akey aiv am∧0≤p∧p≤16384∧s.length≤140737488351232) (zx (decide (yf kind∧s.length≤16384)) (K (.tup [.str (yq p aw akey aiv am kind s),.int 0]) [.mk t0 [.int p,.ptr 1 0 0 [],.nilptr,.str held,.int f],.mk tka [.int aw,.str akey,.str aiv,.int (am+1)]]) (K (.tup [.str [],.int 2100]) [.mk t0 [.int p,.ptr 1 0 0 [],.nilptr,.str held,.int f],.mk tka [.int aw,.str akey,.str aiv,.int am]]))
  | [.ptr 0 0 0 [],.int kind,.str s],[.mk t0 [.int p,.ptr 1 0 0 [],.ptr 2 0 0 [],.str held,.int f],.mk tka [.int aw,.str akey,.str aiv,.int am],.mk tkb [.int bw,.str bkey,.str biv,.int bm]]=>Pre (za3 aw akey aiv am∧0≤p∧p≤16384∧s.length≤140737488351232) (zx (decide (yf kind∧s.length≤16384)) (K (.tup [.str (yq p aw akey aiv am kind s),.int 0]) [.mk t0 [.int p,.ptr 1 0 0 [],.ptr 2 0 0 [],.str held,.int f],.mk tka [.int aw,.str akey,.str aiv,.int (am+1)],.mk tkb [.int bw,.str bkey,.str biv,.int bm]]) (K (.tup [.str [],.int 2100]) [.mk t0 [.int p,.ptr 1 0 0 [],.ptr 2 0 0 [],.str held,.int f],.mk tka [.int aw,.str akey,.str aiv,.int am],.mk tkb [.int bw,.str bkey,.str biv,.int bm]]))
  |_,_=>False
set_option maxHeartbeats 4000000 in
theorem zzx:zp prog 20 zsl:=by
  refine zm y6 (zc ybi zi) rfl func20 rfl call20 (D:=yj8) ?_ ?_
  ·intro args hp K h
   unfold zsl at h
   split at h
   ·exact Nat.le_of_ble_eq_true rfl
   ·exact Nat.le_of_ble_eq_true rfl
   ·exact Nat.le_of_ble_eq_true rfl
   ·exact Nat.le_of_ble_eq_true rfl
   ·exact h.elim
  ·intro args hp K h
   unfold zsl at h
   split at h
   ·rename_i kind s t0 p held f
    obtain ⟨hpre,h⟩:=zn h
    obtain ⟨ht,hf⟩:=zw h
    generalize e:decide (yf kind∧s.length≤16384)=c at ht hf
    cases c
    ·have h:=hf rfl
     repeat ((conv=>whnf);first|refine zq ?_|refine zg ?_|refine zf ?_|refine zb ?_|refine zr (by first|exact e) ?_|refine zj (by first|exact e) ?_|refine zk (by first|exact e) ?_)
     conv=>whnf
     exact zd [0] h
    ·have h:=ht rfl
     repeat ((conv=>whnf);first|refine zq ?_|refine zg ?_|refine zf ?_|refine zb ?_|refine zr (by first|exact e) ?_|refine zj (by first|exact e) ?_|refine zk (by first|exact e) ?_)
     conv=>whnf
     exact zd [0] h
   ·rename_i kind s t0 p held f tkb bw bkey biv bm
    obtain ⟨hpre,h⟩:=zn h
    obtain ⟨ht,hf⟩:=zw h
    generalize e:decide (yf kind∧s.length≤16384)=c at ht hf
    cases c
    ·have h:=hf rfl
     repeat ((conv=>whnf);first|refine zq ?_|refine zg ?_|refine zf ?_|refine zb ?_|refine zr (by first|exact e) ?_|refine zj (by first|exact e) ?_|refine zk (by first|exact e) ?_)
     conv=>whnf
     exact zd [0,1] h
    ·have h:=ht rfl
     repeat ((conv=>whnf);first|refine zq ?_|refine zg ?_|refine zf ?_|refine zb ?_|refine zr (by first|exact e) ?_|refine zj (by first|exact e) ?_|refine zk (by first|exact e) ?_)
     conv=>whnf
     exact zd [0,1] h
   ·rename_i kind s t0 p held f tka aw akey aiv am
    obtain ⟨hpre,h⟩:=zn h
    obtain ⟨ht,hf⟩:=zw h
    generalize e:decide (yf kind∧s.length≤16384)=c at ht hf
    cases c
    ·have h:=hf rfl
     repeat ((conv=>whnf);first|refine zq ?_|refine zg ?_|refine zf ?_|refine zb ?_|refine zr (by first|exact e) ?_|refine zj (by first|exact e) ?_|refine zk (by first|exact e) ?_)
     conv=>whnf
     exact zd [0,1] h
    ·have h:=ht rfl
     repeat ((conv=>whnf);first|refine zq ?_|refine zg ?_|refine zf ?_|refine zb ?_|refine zr (by first|exact e) ?_|refine zj (by first|exact e) ?_|refine zk (by first|exact e) ?_)
     conv=>whnf
     exact zd [0,1] h
   ·rename_i kind s t0 p held f tka aw akey aiv am tkb bw bkey biv bm
    obtain ⟨hpre,h⟩:=zn h
    obtain ⟨ht,hf⟩:=zw h
    generalize e:decide (yf kind∧s.length≤16384)=c at ht hf
    cases c
    ·have h:=hf rfl
     repeat ((conv=>whnf);first|refine zq ?_|refine zg ?_|refine zf ?_|refine zb ?_|refine zr (by first|exact e) ?_|refine zj (by first|exact e) ?_|refine zk (by first|exact e) ?_)
     conv=>whnf
     exact zd [0,1,2] h
    ·have h:=ht rfl
     repeat ((conv=>whnf);first|refine zq ?_|refine zg ?_|refine zf ?_|refine zb ?_|refine zr (by first|exact e) ?_|refine zj (by first|exact e) ?_|refine zk (by first|exact e) ?_)
     conv=>whnf
     exact zd [0,1,2] h
   ·exact h.elim
end Go.Sym.Z
