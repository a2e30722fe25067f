/-
  Contracts of functions of the program, each said of symbolic values, and plain laws; no condition beyond each statement's own.
-/
import Derived.Test.YtmmpgjcpielefaaGreatG32
import Derived.Test.YtmmpgjcpielefaaGreatG37
set_option linter.unusedSimpArgs false
set_option linter.unusedVariables false
namespace Go.Sym.Z
open Go Go.Proofs.Tryz Go.Sym.Lp Go.Sym.Gcm Go.Sym.Aes Go.Sym.Pol Go.Sym.Cha
set_option maxRecDepth 100000
attribute [local irreducible] zav yt zg4 zg5 ze1 xl zas y5 gst gtg gW gR gH y4
def zv8:Spec:=fun args hp K=>match args,hp with
  | [.agg [.sl 0 0 0 [] n c,.nilsl]],[.mk t [.arr8 m l]]=>Pre (n=l.length∧0<n∧n≤100000)
      (zc4 fun x:List UInt8=>K (.sl 1 0 0 [] n (n+x.length)) [.mk t [.arr8 m l],.mk 5 [.arr8 (n+x.length) (l++x)]])
  |_,_=>False
theorem z9f:zm prog 89 zv8:=by
  refine zk zdl zg rfl func89 rfl call89 (D:=yh1) ?_ ?_
  ·intro args hp K h
   unfold zv8 at h
   split at h
   ·exact Nat.le_of_ble_eq_true rfl
   ·exact h.elim
  ·intro args hp K h
   unfold zv8 at h
   split at h
   ·rename_i n c t m l
    obtain ⟨⟨ha,h0,h1⟩,h⟩:=zl h
    have hla:(List.take n (List.drop (off []) l)).length=n:=by rw [List.length_take,List.length_drop];show min n (l.length-0)=n;omega
    have hle:List.take n (List.drop (off []) l)=l:=List.take_of_length_le (by show (List.drop 0 l).length≤n;rw [List.drop_zero];omega)
    refine za ?_
    refine y0 fun t1=>?_
    refine za ?_
    refine zw ⟨by omega,by rw [List.length_append],by show _+0≤_;omega⟩ ?_
    refine za ?_
    refine y0 fun t2=>?_
    have h:=zbk h t2
    refine za ?_
    rw [List.take_left' rfl,hle,List.length_nil,Nat.add_zero,List.append_nil,←ha]
    conv=>whnf
    exact ze [0,3] h
   ·exact h.elim
def zn3:Spec:=fun args hp K=>match args,hp with
  | [.agg [.sl 0 0 0 [] n c,.nilsl],.sl 1 0 0 [] N c2],[.mk t [.arr8 m l],.mk t2 [.arr8 M s]]=>Pre (N=n∧n=l.length∧0<n∧n≤100000∧n≤s.length∧n≤c2)
      (K (.tup []) [.mk t [.arr8 m (s.take n)],.mk t2 [.arr8 M s]])
  |_,_=>False
theorem z04:zm prog 93 zn3:=by
  refine zk zdl zg rfl func93 rfl call93 (D:=yh2) ?_ ?_
  ·intro args hp K h
   unfold zn3 at h
   split at h
   ·exact Nat.le_of_ble_eq_true rfl
   ·exact h.elim
  ·intro args hp K h
   unfold zn3 at h
   split at h
   ·rename_i n c N c2 t m l t2 M s
    obtain ⟨⟨hN,ha,h0,h1,hs,hc⟩,h'⟩:=zl h
    clear h
    subst hN
    have hl1:(List.take N (List.drop (off []) s)).length=N:=by rw [List.length_take,List.length_drop];show min N (s.length-0)=N;omega
    have hmn:(((min (List.take N (List.drop (off []) s)).length N:Nat):Int)).toNat=N:=by rw [hl1];omega
    have hsl:off (ye [] (slO c2 N) ty5.sz)+(N-N)≤s.length:=by
      rw [zv]
      show 0+slO c2 N*1+_≤_
      unfold slO;split<;>omega
    refine za ?_
    have hEq:z9 l (off []) (List.take (min (List.take N (List.drop (off []) s)).length N) (List.take N (List.drop (off []) s)))=s.take N:=by
      rw [hl1,Nat.min_self]
      have e1:List.take N (List.take N (List.drop (off []) s))=s.take N:=by rw [List.take_take,Nat.min_self];rfl
      rw [e1]
      unfold z9
      have e2:(s.take N).length=N:=by rw [List.length_take];omega
      show List.take 0 l++s.take N++List.drop (0+(s.take N).length) l=s.take N
      rw [e2,List.take_zero,List.nil_append,Nat.zero_add,List.drop_eq_nil_of_le (by omega),List.append_nil]
    rw [hmn]
    refine za ?_
    refine yv (hp':= [.mk t [.arr8 m (s.take N)],.mk t2 [.arr8 M s]]) [0,1] h' ?_
    repeat ((conv=>whnf);refine zb ?_)
    conv=>whnf
    exact zh (congrArg (fun y=>SV.agg [SV.arr8 m y]) hEq)
   ·exact h.elim
def znv:Spec:=fun args hp K=>match args,hp with
  | [.int w,.str key,.str nonce,.str aad,.sl 0 0 0 [] n c,.nilsl],[.mk t [.arr8 m l]]=>Pre (n=l.length∧16≤n∧zob w key nonce aad ((n:Int)+0-16))
      (K (.int 0) [.mk t [.arr8 m (y4 w key nonce aad (l.take (n-16)))]])
  |_,_=>False
set_option maxHeartbeats 4000000 in
theorem z1z:zm prog 66 znv:=by
  refine zk zdl (zc z6l (zc z9f (zc ztk (zc ya7 (zc ycp (zc z04 zg)))))) rfl func66 rfl call66 (D:=yha) ?_ ?_
  ·intro args hp K h
   unfold znv at h
   split at h
   ·exact Nat.le_of_ble_eq_true rfl
   ·exact h.elim
  ·intro args hp K h
   unfold znv at h
   split at h
   ·rename_i w key nonce aad n c t m l
    obtain ⟨⟨hnl,h16,h0⟩,h⟩:=zl h
    have hd:decide (zeg w key.length∧nonce.length=12∧aad.length≤65536∧(n:Int)+0-16≤65536)=true:=decide_eq_true (by unfold zob at h0;exact h0)
    unfold zob at h0
    obtain ⟨hk,h1,h2,h3⟩:=h0
    unfold zeg at hk
    have hnn:((n:Int)+0-16).toNat=n-16:=by omega
    have hpj:n=l.length∧0<n∧n≤100000:=⟨hnl,by omega,by omega⟩
    by_cases h4:w=4867
    ·repeat ((conv=>whnf);first|refine zu ?_|refine zi ?_|refine zj ?_|refine zb ?_|refine zw (by first|exact hd|(rw [hd];rfl)) ?_|refine zo (by first|exact hd|(rw [hd];rfl)) ?_|refine zn (by first|exact hd|(rw [hd];rfl)) ?_)
     conv=>whnf
     refine y0 fun x=>?_
     have hRl:(l++x).length=n+x.length:=by rw [List.length_append,←hnl]
     have hT1:List.take ((n:Int)+0-16).toNat (l++x)=l.take (n-16):=by
       rw [hnn,List.take_append_of_le_length (by omega)]
     have hT3:List.drop ((n:Int)+0-16).toNat (l++x)=l.drop (n-16)++x:=by
       rw [hnn,List.drop_append_of_le_length (by omega)]
     have hStr:y5 w key nonce=xl key nonce 1:=by funext b;unfold y5;rw [if_pos h4]
     have hX:(xl key nonce (UInt32.ofInt 1) (List.take ((n:Int)+0-16).toNat (l++x))++List.drop ((n:Int)+0-16).toNat (l++x))=y5 w key nonce (l.take (n-16))++(l.drop (n-16)++x):=by
       rw [hT1,hT3,hStr];rfl
     have hXl:(xl key nonce (UInt32.ofInt 1) (List.take ((n:Int)+0-16).toNat (l++x))++List.drop ((n:Int)+0-16).toNat (l++x)).length=n+x.length:=by
       rw [hX,List.length_append,List.length_append,xp,List.length_take,List.length_drop]
       omega
     have hof:(off (ye [] (slO (n+x.length) ((n:Int)+0-16).toNat) ty5.sz))=n-16:=by rw [hnn,zv,xt (by omega)];show 0+(n-16)*1=_;omega
     have hpo:(off (ye [] (slO (n+x.length) ((n:Int)+0-16).toNat) ty5.sz))+(n-((n:Int)+0-16).toNat)≤(xl key nonce (UInt32.ofInt 1) (List.take ((n:Int)+0-16).toNat (l++x))++List.drop ((n:Int)+0-16).toNat (l++x)).length:=by rw [hof,hXl,hnn];omega
     have hA1:List.take ((n:Int)+0-16).toNat (xl key nonce (UInt32.ofInt 1) (List.take ((n:Int)+0-16).toNat (l++x))++List.drop ((n:Int)+0-16).toNat (l++x))=y5 w key nonce (l.take (n-16)):=by
       rw [hX];exact List.take_left' (by rw [xp,List.length_take,hnn];omega)
     have hTg:(yt key nonce aad (List.take ((n:Int)+0-16).toNat (xl key nonce (UInt32.ofInt 1) (List.take ((n:Int)+0-16).toNat (l++x))++List.drop ((n:Int)+0-16).toNat (l++x))))=zas w key nonce aad (y5 w key nonce (l.take (n-16))):=by
       rw [hA1];unfold zas;rw [if_pos h4]
     have hTl:(yt key nonce aad (List.take ((n:Int)+0-16).toNat (xl key nonce (UInt32.ofInt 1) (List.take ((n:Int)+0-16).toNat (l++x))++List.drop ((n:Int)+0-16).toNat (l++x)))).length=16:=by rw [hTg,zbz]
     have hpx:key.length=32∧nonce.length=12∧((n:Int)+0-16).toNat≤(l++x).length∧((n:Int)+0-16).toNat≤n+x.length∧((n:Int)+0-16).toNat≤9223372036854775807:=⟨by omega,h1,by omega,by omega,by omega⟩
     have hpt:key.length=32∧nonce.length=12∧aad.length≤65536∧((n:Int)+0-16).toNat≤65536∧((n:Int)+0-16).toNat≤(xl key nonce (UInt32.ofInt 1) (List.take ((n:Int)+0-16).toNat (l++x))++List.drop ((n:Int)+0-16).toNat (l++x)).length∧((n:Int)+0-16).toNat≤n+x.length:=⟨by omega,h1,h2,by omega,by omega,by omega⟩
     have hSp:(z9 (xl key nonce (UInt32.ofInt 1) (List.take ((n:Int)+0-16).toNat (l++x))++List.drop ((n:Int)+0-16).toNat (l++x)) (off (ye [] (slO (n+x.length) ((n:Int)+0-16).toNat) ty5.sz)) (List.take (min (yt key nonce aad (List.take ((n:Int)+0-16).toNat (xl key nonce (UInt32.ofInt 1) (List.take ((n:Int)+0-16).toNat (l++x))++List.drop ((n:Int)+0-16).toNat (l++x)))).length (n-((n:Int)+0-16).toNat)) (yt key nonce aad (List.take ((n:Int)+0-16).toNat (xl key nonce (UInt32.ofInt 1) (List.take ((n:Int)+0-16).toNat (l++x))++List.drop ((n:Int)+0-16).toNat (l++x))))))=y4 w key nonce aad (l.take (n-16))++x:=by
       rw [hTl,show min 16 (n-((n:Int)+0-16).toNat)=16 by omega,List.take_of_length_le (Nat.le_of_eq hTl),hTg,hof,hX,za2]
       unfold z9
       rw [zbz,List.take_left' (by rw [xp,List.length_take];omega),←List.append_assoc (y5 w key nonce _),List.drop_left' (by rw [List.length_append,xp,List.length_take,List.length_drop];omega)]
     have hAl:(y4 w key nonce aad (l.take (n-16))).length=n:=by
       rw [za2,List.length_append,zbz,xp,List.length_take];omega
     have hSpl:(z9 (xl key nonce (UInt32.ofInt 1) (List.take ((n:Int)+0-16).toNat (l++x))++List.drop ((n:Int)+0-16).toNat (l++x)) (off (ye [] (slO (n+x.length) ((n:Int)+0-16).toNat) ty5.sz)) (List.take (min (yt key nonce aad (List.take ((n:Int)+0-16).toNat (xl key nonce (UInt32.ofInt 1) (List.take ((n:Int)+0-16).toNat (l++x))++List.drop ((n:Int)+0-16).toNat (l++x)))).length (n-((n:Int)+0-16).toNat)) (yt key nonce aad (List.take ((n:Int)+0-16).toNat (xl key nonce (UInt32.ofInt 1) (List.take ((n:Int)+0-16).toNat (l++x))++List.drop ((n:Int)+0-16).toNat (l++x)))))).length=n+x.length:=by rw [hSp,List.length_append,hAl]
     have hps:n=n∧n=l.length∧0<n∧n≤100000∧n≤(z9 (xl key nonce (UInt32.ofInt 1) (List.take ((n:Int)+0-16).toNat (l++x))++List.drop ((n:Int)+0-16).toNat (l++x)) (off (ye [] (slO (n+x.length) ((n:Int)+0-16).toNat) ty5.sz)) (List.take (min (yt key nonce aad (List.take ((n:Int)+0-16).toNat (xl key nonce (UInt32.ofInt 1) (List.take ((n:Int)+0-16).toNat (l++x))++List.drop ((n:Int)+0-16).toNat (l++x)))).length (n-((n:Int)+0-16).toNat)) (yt key nonce aad (List.take ((n:Int)+0-16).toNat (xl key nonce (UInt32.ofInt 1) (List.take ((n:Int)+0-16).toNat (l++x))++List.drop ((n:Int)+0-16).toNat (l++x)))))).length∧n≤n+x.length:=⟨rfl,hnl,by omega,by omega,by omega,by omega⟩
     have hpj:n=l.length∧0<n∧n≤100000:=⟨hnl,by omega,by omega⟩
     refine za ?_
     refine yv (hp':= [.mk t [.arr8 m (y4 w key nonce aad (l.take (n-16)))]]) [0] h ?_
     repeat ((conv=>whnf);refine zb ?_)
     conv=>whnf
     exact zh (congrArg (fun y=>SV.agg [SV.arr8 m y]) (by rw [hSp];exact List.take_left' hAl))
    ·repeat ((conv=>whnf);first|refine zu ?_|refine zi ?_|refine zj ?_|refine zb ?_|refine zw (by first|exact hd|(rw [hd];rfl)) ?_|refine zo (by first|exact hd|(rw [hd];rfl)) ?_|refine zn (by first|exact hd|(rw [hd];rfl)) ?_)
     conv=>whnf
     refine y0 fun x=>?_
     have hRl:(l++x).length=n+x.length:=by rw [List.length_append,←hnl]
     have hT1:List.take ((n:Int)+0-16).toNat (l++x)=l.take (n-16):=by
       rw [hnn,List.take_append_of_le_length (by omega)]
     have hT3:List.drop ((n:Int)+0-16).toNat (l++x)=l.drop (n-16)++x:=by
       rw [hnn,List.drop_append_of_le_length (by omega)]
     have hStr:y5 w key nonce=ze1 key nonce:=by funext b;unfold y5;rw [if_neg h4]
     have hX:(gst (gW key) (gR key) nonce 2 (List.take ((n:Int)+0-16).toNat (l++x))++List.drop ((n:Int)+0-16).toNat (l++x))=y5 w key nonce (l.take (n-16))++(l.drop (n-16)++x):=by
       rw [hT1,hT3,hStr];unfold ze1;rfl
     have hXl:(gst (gW key) (gR key) nonce 2 (List.take ((n:Int)+0-16).toNat (l++x))++List.drop ((n:Int)+0-16).toNat (l++x)).length=n+x.length:=by
       rw [hX,List.length_append,List.length_append,xp,List.length_take,List.length_drop]
       omega
     have hof:(off (ye [] (slO (n+x.length) ((n:Int)+0-16).toNat) ty5.sz))=n-16:=by rw [hnn,zv,xt (by omega)];show 0+(n-16)*1=_;omega
     have hpo:(off (ye [] (slO (n+x.length) ((n:Int)+0-16).toNat) ty5.sz))+(n-((n:Int)+0-16).toNat)≤(gst (gW key) (gR key) nonce 2 (List.take ((n:Int)+0-16).toNat (l++x))++List.drop ((n:Int)+0-16).toNat (l++x)).length:=by rw [hof,hXl,hnn];omega
     have hA1:List.take ((n:Int)+0-16).toNat (gst (gW key) (gR key) nonce 2 (List.take ((n:Int)+0-16).toNat (l++x))++List.drop ((n:Int)+0-16).toNat (l++x))=y5 w key nonce (l.take (n-16)):=by
       rw [hX];exact List.take_left' (by rw [xp,List.length_take,hnn];omega)
     have hTg:(gtg (gW key) (gR key) ((gH (gW key) (gR key)).1,(gH (gW key) (gR key)).2) nonce aad (List.take ((n:Int)+0-16).toNat (gst (gW key) (gR key) nonce 2 (List.take ((n:Int)+0-16).toNat (l++x))++List.drop ((n:Int)+0-16).toNat (l++x))))=zas w key nonce aad (y5 w key nonce (l.take (n-16))):=by
       rw [hA1];unfold zas;rw [if_neg h4];unfold zg5;rfl
     have hTl:(gtg (gW key) (gR key) ((gH (gW key) (gR key)).1,(gH (gW key) (gR key)).2) nonce aad (List.take ((n:Int)+0-16).toNat (gst (gW key) (gR key) nonce 2 (List.take ((n:Int)+0-16).toNat (l++x))++List.drop ((n:Int)+0-16).toNat (l++x)))).length=16:=by rw [hTg,zbz]
     have hWl:=zss (key:=key) (by omega)
     have hR7:gR key=key.length/ 4+7:=by unfold gR;rfl
     have hpx:box=box∧nonce.length=12∧1≤gR key∧gR key≤100∧16*gR key≤(gW key).length∧((n:Int)+0-16).toNat≤(l++x).length∧((n:Int)+0-16).toNat≤n+x.length∧((n:Int)+0-16).toNat≤9223372036854775807:=⟨rfl,h1,by omega,by omega,by omega,by omega,by omega,by omega⟩
     have hpt:box=box∧nonce.length=12∧1≤gR key∧gR key≤100∧16*gR key≤(gW key).length∧((n:Int)+0-16).toNat≤(gst (gW key) (gR key) nonce 2 (List.take ((n:Int)+0-16).toNat (l++x))++List.drop ((n:Int)+0-16).toNat (l++x)).length∧((n:Int)+0-16).toNat≤n+x.length∧aad.length≤65536∧((n:Int)+0-16).toNat≤70000:=⟨rfl,h1,by omega,by omega,by omega,by omega,by omega,h2,by omega⟩
     have hSp:(z9 (gst (gW key) (gR key) nonce 2 (List.take ((n:Int)+0-16).toNat (l++x))++List.drop ((n:Int)+0-16).toNat (l++x)) (off (ye [] (slO (n+x.length) ((n:Int)+0-16).toNat) ty5.sz)) (List.take (min (gtg (gW key) (gR key) ((gH (gW key) (gR key)).1,(gH (gW key) (gR key)).2) nonce aad (List.take ((n:Int)+0-16).toNat (gst (gW key) (gR key) nonce 2 (List.take ((n:Int)+0-16).toNat (l++x))++List.drop ((n:Int)+0-16).toNat (l++x)))).length (n-((n:Int)+0-16).toNat)) (gtg (gW key) (gR key) ((gH (gW key) (gR key)).1,(gH (gW key) (gR key)).2) nonce aad (List.take ((n:Int)+0-16).toNat (gst (gW key) (gR key) nonce 2 (List.take ((n:Int)+0-16).toNat (l++x))++List.drop ((n:Int)+0-16).toNat (l++x))))))=y4 w key nonce aad (l.take (n-16))++x:=by
       rw [hTl,show min 16 (n-((n:Int)+0-16).toNat)=16 by omega,List.take_of_length_le (Nat.le_of_eq hTl),hTg,hof,hX,za2]
       unfold z9
       rw [zbz,List.take_left' (by rw [xp,List.length_take];omega),←List.append_assoc (y5 w key nonce _),List.drop_left' (by rw [List.length_append,xp,List.length_take,List.length_drop];omega)]
     have hAl:(y4 w key nonce aad (l.take (n-16))).length=n:=by
       rw [za2,List.length_append,zbz,xp,List.length_take];omega
     have hSpl:(z9 (gst (gW key) (gR key) nonce 2 (List.take ((n:Int)+0-16).toNat (l++x))++List.drop ((n:Int)+0-16).toNat (l++x)) (off (ye [] (slO (n+x.length) ((n:Int)+0-16).toNat) ty5.sz)) (List.take (min (gtg (gW key) (gR key) ((gH (gW key) (gR key)).1,(gH (gW key) (gR key)).2) nonce aad (List.take ((n:Int)+0-16).toNat (gst (gW key) (gR key) nonce 2 (List.take ((n:Int)+0-16).toNat (l++x))++List.drop ((n:Int)+0-16).toNat (l++x)))).length (n-((n:Int)+0-16).toNat)) (gtg (gW key) (gR key) ((gH (gW key) (gR key)).1,(gH (gW key) (gR key)).2) nonce aad (List.take ((n:Int)+0-16).toNat (gst (gW key) (gR key) nonce 2 (List.take ((n:Int)+0-16).toNat (l++x))++List.drop ((n:Int)+0-16).toNat (l++x)))))).length=n+x.length:=by rw [hSp,List.length_append,hAl]
     have hps:n=n∧n=l.length∧0<n∧n≤100000∧n≤(z9 (gst (gW key) (gR key) nonce 2 (List.take ((n:Int)+0-16).toNat (l++x))++List.drop ((n:Int)+0-16).toNat (l++x)) (off (ye [] (slO (n+x.length) ((n:Int)+0-16).toNat) ty5.sz)) (List.take (min (gtg (gW key) (gR key) ((gH (gW key) (gR key)).1,(gH (gW key) (gR key)).2) nonce aad (List.take ((n:Int)+0-16).toNat (gst (gW key) (gR key) nonce 2 (List.take ((n:Int)+0-16).toNat (l++x))++List.drop ((n:Int)+0-16).toNat (l++x)))).length (n-((n:Int)+0-16).toNat)) (gtg (gW key) (gR key) ((gH (gW key) (gR key)).1,(gH (gW key) (gR key)).2) nonce aad (List.take ((n:Int)+0-16).toNat (gst (gW key) (gR key) nonce 2 (List.take ((n:Int)+0-16).toNat (l++x))++List.drop ((n:Int)+0-16).toNat (l++x)))))).length∧n≤n+x.length:=⟨rfl,hnl,by omega,by omega,by omega,by omega⟩
     have hpj:n=l.length∧0<n∧n≤100000:=⟨hnl,by omega,by omega⟩
     refine za ?_
     refine yv (hp':= [.mk t [.arr8 m (y4 w key nonce aad (l.take (n-16)))]]) [0] h ?_
     repeat ((conv=>whnf);refine zb ?_)
     conv=>whnf
     exact zh (congrArg (fun y=>SV.agg [SV.arr8 m y]) (by rw [hSp];exact List.take_left' hAl))
   ·exact h.elim
end Go.Sym.Z

namespace Go.Sym.Z
open Go Go.Proofs.Tryz Go.Sym.Lp Go.Sym.Cha Go.Sym.Sha Go.Sym.Hk
set_option maxRecDepth 100000
attribute [local irreducible] zaq exF kyF ivF y4 zas y5 inL ncF hdF
def yhd:List (Nat×List PStep):= [(10,[⟨0,[]⟩,⟨1,[]⟩,⟨2,[]⟩,⟨3,[]⟩,⟨4,[0,1,2,3]⟩,⟨5,[0,1,2,3]⟩,⟨6,[0,1,2,3]⟩,⟨7,[0,1,2,3]⟩,⟨8,[0,1,2,3,4,5,6,7]⟩,⟨10,[0,1,2,3,4,5,6,7,8]⟩,⟨11,[0,1,2,3,4,5,6,7,8,10]⟩,⟨9,[0,1,2,3,4,5,6,7,10,11]⟩,⟨12,[]⟩,⟨13,[]⟩])]
def yh6:List (Nat×List PStep):= []
theorem zfe (k n:Int):(hdF k n).length=5:=by unfold hdF;rfl
theorem zr1 {p n:Int} (hn0:0≤n) (hn:n≤16384) (hp:0≤p):n+1≤inL p n∧inL p n≤16385:=by
  unfold inL
  split
  ·rename_i h0
   have h:=Int.lt_ediv_add_one_mul_self (n+1+p-1) h0
   rw [Int.add_mul,Int.one_mul] at h
   omega
  ·omega
def za0 (p:Int) (kind:Int) (s:List UInt8):List UInt8:=s++UInt8.ofInt kind ::List.replicate ((inL p s.length).toNat-s.length-1) 0
def yw (p w:Int) (key iv:List UInt8) (m kind:Int) (s:List UInt8):List UInt8:=
  hdF 23 ((inL p s.length)+16)++y4 w key (ncF iv m) (hdF 23 ((inL p s.length)+16)) (za0 p kind s)
def zd2 (w:Int) (key iv:List UInt8) (m:Int):Prop:=su w∧key.length=aSz w∧iv.length=12∧0≤m∧m≤1000000000
theorem zhb {w:Int} {key iv:List UInt8} {m:Int} (h:zd2 w key iv m):zeg w key.length:=by
  obtain ⟨h1,h2,_⟩:=h
  rw [h2]
  unfold zeg aSz
  rcases h1 with e|e|e<;>subst e<;>simp
theorem zuh {L:Nat} {s:List UInt8} (h:s.length+1≤L) (k:UInt8) {i:Nat} (hi:i=s.length):(z9 (List.replicate (L+16) 0) (off []) (List.take (min s.length (L+16)) s)).set i k=s++k ::List.replicate (L+16-s.length-1) 0:=by
  subst hi
  rw [List.take_of_length_le (show s.length≤min s.length (L+16) by omega)]
  unfold z9
  show (List.take 0 _++s++List.drop (0+s.length) _).set _ _=_
  rw [List.take_zero,List.nil_append,List.drop_replicate,Nat.zero_add,List.set_append_right _ _ (Nat.le_refl _),Nat.sub_self,show L+16-s.length=(L+16-s.length-1)+1 by omega,List.replicate_succ]
  rfl
theorem zo1 {L:Nat} {s:List UInt8} (h:s.length+1≤L) (k:UInt8):(s++k ::List.replicate (L+16-s.length-1) 0).take L=s++k ::List.replicate (L-s.length-1) 0:=by
  rw [List.take_append,List.take_of_length_le (by omega),show L-s.length=(L-s.length-1)+1 by omega,List.take_succ_cons,List.take_replicate]
  congr 3
  omega
def zww:Spec:=fun args hp K=>match args,hp with
  | [.ptr 0 0 0 [],.int kind,.str s],[.mk t0 [.int p,.nilptr,.nilptr,.str held,.int f]]=>Pre (s.length≤140737488351232) (zx (decide (y6 kind∧s.length≤16384)) (K (.tup [.str (hdF kind s.length++s),.int 0]) [.mk t0 [.int p,.nilptr,.nilptr,.str held,.int f]]) (K (.tup [.str [],.int 2100]) [.mk t0 [.int p,.nilptr,.nilptr,.str held,.int f]]))
  | [.ptr 0 0 0 [],.int kind,.str s],[.mk t0 [.int p,.nilptr,.ptr 1 0 0 [],.str held,.int f],.mk tkb [.int bw,.str bkey,.str biv,.int bm]]=>Pre (s.length≤140737488351232) (zx (decide (y6 kind∧s.length≤16384)) (K (.tup [.str (hdF kind s.length++s),.int 0]) [.mk t0 [.int p,.nilptr,.ptr 1 0 0 [],.str held,.int f],.mk tkb [.int bw,.str bkey,.str biv,.int bm]]) (K (.tup [.str [],.int 2100]) [.mk t0 [.int p,.nilptr,.ptr 1 0 0 [],.str held,.int f],.mk tkb [.int bw,.str bkey,.str biv,.int bm]]))
  | [.ptr 0 0 0 [],.int kind,.str s],[.mk t0 [.int p,.ptr 1 0 0 [],.nilptr,.str held,.int f],.mk tka [.int aw,.str akey,.str aiv,.int am]]=>Pre (zd2 aw akey aiv am∧0≤p∧p≤16384∧s.length≤140737488351232) (zx (decide (y6 kind∧s.length≤16384)) (K (.tup [.str (yw p aw akey aiv am kind s),.int 0]) [.mk t0 [.int p,.ptr 1 0 0 [],.nilptr,.str held,.int f],.mk tka [.int aw,.str akey,.str aiv,.int (am+1)]]) (K (.tup [.str [],.int 2100]) [.mk t0 [.int p,.ptr 1 0 0 [],.nilptr,.str held,.int f],.mk tka [.int aw,.str akey,.str aiv,.int am]]))
  | [.ptr 0 0 0 [],.int kind,.str s],[.mk t0 [.int p,.ptr 1 0 0 [],.ptr 2 0 0 [],.str held,.int f],.mk tka [.int aw,.str akey,.str aiv,.int am],.mk tkb [.int bw,.str bkey,.str biv,.int bm]]=>Pre (zd2 aw akey aiv am∧0≤p∧p≤16384∧s.length≤140737488351232) (zx (decide (y6 kind∧s.length≤16384)) (K (.tup [.str (yw p aw akey aiv am kind s),.int 0]) [.mk t0 [.int p,.ptr 1 0 0 [],.ptr 2 0 0 [],.str held,.int f],.mk tka [.int aw,.str akey,.str aiv,.int (am+1)],.mk tkb [.int bw,.str bkey,.str biv,.int bm]]) (K (.tup [.str [],.int 2100]) [.mk t0 [.int p,.ptr 1 0 0 [],.ptr 2 0 0 [],.str held,.int f],.mk tka [.int aw,.str akey,.str aiv,.int am],.mk tkb [.int bw,.str bkey,.str biv,.int bm]]))
  |_,_=>False
set_option maxHeartbeats 4000000 in
theorem z85:zm prog 45 zww:=by
  refine zk y3 (zc zzu (zc z9x (zc z42 (zc zy3 (zc z1z zg))))) rfl func45 rfl call45 (D:=yhd) ?_ ?_
  ·intro args hp K h
   unfold zww at h
   split at h
   ·exact Nat.le_of_ble_eq_true rfl
   ·exact Nat.le_of_ble_eq_true rfl
   ·exact Nat.le_of_ble_eq_true rfl
   ·exact Nat.le_of_ble_eq_true rfl
   ·exact h.elim
  ·intro args hp K h
   unfold zww at h
   split at h
   ·rename_i kind s t0 p held f
    obtain ⟨hs,h⟩:=zl h
    obtain ⟨ht,hf⟩:=zy h
    by_cases hk:y6 kind
    ·have dk:=decide_eq_true hk
     by_cases hl:s.length≤16384
     ·have h:=ht (decide_eq_true ⟨hk,hl⟩)
      have hhl:=zfe kind s.length
      repeat ((conv=>whnf);first|refine zu ?_|refine zi ?_|refine zj ?_|refine zb ?_|refine zw (by first|exact dk|(rw [dk];rfl)) ?_|refine zo (by first|exact dk|(rw [dk];rfl)) ?_|refine zn (by first|exact dk|(rw [dk];rfl)) ?_)
      conv=>whnf
      exact ze [0] h
     ·have h:=hf (decide_eq_false fun hh=>hl hh.2)
      repeat ((conv=>whnf);first|refine zu ?_|refine zi ?_|refine zj ?_|refine zb ?_|refine zw (by first|exact dk|(rw [dk];rfl)) ?_|refine zo (by first|exact dk|(rw [dk];rfl)) ?_|refine zn (by first|exact dk|(rw [dk];rfl)) ?_)
      conv=>whnf
      exact ze [0] h
    ·have dk:=decide_eq_false hk
     have h:=hf (decide_eq_false fun hh=>hk hh.1)
     repeat ((conv=>whnf);first|refine zu ?_|refine zi ?_|refine zj ?_|refine zb ?_|refine zw (by first|exact dk|(rw [dk];rfl)) ?_|refine zo (by first|exact dk|(rw [dk];rfl)) ?_|refine zn (by first|exact dk|(rw [dk];rfl)) ?_)
     conv=>whnf
     exact ze [0] h
   ·rename_i kind s t0 p held f tkb bw bkey biv bm
    obtain ⟨hs,h⟩:=zl h
    obtain ⟨ht,hf⟩:=zy h
    by_cases hk:y6 kind
    ·have dk:=decide_eq_true hk
     by_cases hl:s.length≤16384
     ·have h:=ht (decide_eq_true ⟨hk,hl⟩)
      have hhl:=zfe kind s.length
      repeat ((conv=>whnf);first|refine zu ?_|refine zi ?_|refine zj ?_|refine zb ?_|refine zw (by first|exact dk|(rw [dk];rfl)) ?_|refine zo (by first|exact dk|(rw [dk];rfl)) ?_|refine zn (by first|exact dk|(rw [dk];rfl)) ?_)
      conv=>whnf
      exact ze [0,1] h
     ·have h:=hf (decide_eq_false fun hh=>hl hh.2)
      repeat ((conv=>whnf);first|refine zu ?_|refine zi ?_|refine zj ?_|refine zb ?_|refine zw (by first|exact dk|(rw [dk];rfl)) ?_|refine zo (by first|exact dk|(rw [dk];rfl)) ?_|refine zn (by first|exact dk|(rw [dk];rfl)) ?_)
      conv=>whnf
      exact ze [0,1] h
    ·have dk:=decide_eq_false hk
     have h:=hf (decide_eq_false fun hh=>hk hh.1)
     repeat ((conv=>whnf);first|refine zu ?_|refine zi ?_|refine zj ?_|refine zb ?_|refine zw (by first|exact dk|(rw [dk];rfl)) ?_|refine zo (by first|exact dk|(rw [dk];rfl)) ?_|refine zn (by first|exact dk|(rw [dk];rfl)) ?_)
     conv=>whnf
     exact ze [0,1] h
   ·rename_i kind s t0 p held f tka aw akey aiv am
    obtain ⟨⟨hok,hp0,hp1,hs⟩,h⟩:=zl h
    obtain ⟨ht,hf⟩:=zy h
    by_cases hk:y6 kind
    ·have dk:=decide_eq_true hk
     by_cases hl:s.length≤16384
     ·have h:=ht (decide_eq_true ⟨hk,hl⟩)
      have hky:=zhb hok
      obtain ⟨hw,hkl,hiv,hm0,hm1⟩:=hok
      have hnl:=zsr aiv am
      have hin:0≤(s.length:Int)∧(s.length:Int)≤16384∧0≤p∧p≤16384:=⟨by omega,by omega,hp0,hp1⟩
      obtain ⟨hi1,hi2⟩:=zr1 (p:=p) (n:=(s.length:Int)) (by omega) (by omega) hp0
      obtain ⟨L,hL⟩: ∃L:Nat,inL p (s.length:Int)=(L:Int):=⟨_,(Int.toNat_of_nonneg (by omega)).symm⟩
      have hLn:(inL p (s.length:Int)).toNat=L:=by rw [hL];exact Int.toNat_natCast _
      unfold yw za0 at h
      have hcast:(L:Int)+16=((L+16:Nat):Int):=by omega
      rw [hLn,hL,hcast] at h
      have hLt:((L:Int)+16).toNat=L+16:=by omega
      have hix:off (ye [] ((s.length:Int)).toNat ty5.sz)=s.length:=by rw [zv];show 0+((s.length:Int)).toNat*1=_;omega
      have hsl1:s.length+1≤L:=by omega
      have hB:=zuh (L:=L) (s:=s) hsl1 (UInt8.ofInt kind) hix
      obtain ⟨BB,hBB⟩: ∃BB,BB=s++UInt8.ofInt kind ::List.replicate (L+16-s.length-1) 0:=⟨_,rfl⟩
      have hBl:BB.length=L+16:=by rw [hBB,List.length_append,List.length_cons,List.length_replicate];omega
      have hBt:BB.take (L+16-16)=s++UInt8.ofInt kind ::List.replicate (L-s.length-1) 0:=by rw [hBB,Nat.add_sub_cancel];exact zo1 hsl1 _
      rw [←hBB] at hB
      have hps:off (ye [] ((s.length:Int)).toNat ty5.sz)<(z9 (List.replicate (L+16) 0) (off []) (List.take (min s.length (L+16)) s)).length:=by
        have:=congrArg List.length hB
        rw [List.length_set] at this
        rw [hix];omega
      have hhl:=zfe 23 ((L+16:Nat):Int)
      have hAl:(y4 aw akey (ncF aiv am) (hdF 23 ((L+16:Nat):Int)) (BB.take (L+16-16))).length=L+16:=by
        rw [za2,List.length_append,zbz,xp,List.length_take,hBl];omega
      have hpn:L+16=BB.length∧16≤L+16∧zob aw akey (ncF aiv am) (hdF 23 ((L+16:Nat):Int)) (((L+16:Nat):Int)+0-16):=⟨hBl.symm,by omega,hky,by rw [hnl,hiv],by omega,by omega⟩
      rw [←hBt] at h
      repeat ((conv=>whnf);first|refine zu ?_|refine zi ?_|refine zj ?_|refine zb ?_|refine zw (by first|exact dk|(rw [dk];rfl)) ?_|refine zo (by first|exact dk|(rw [dk];rfl)) ?_|refine zn (by first|exact dk|(rw [dk];rfl)) ?_)
      conv=>whnf
      rw [hL,hLt]
      refine za ?_
      rw [hB]
      have hpo:off []+(L+16)≤(y4 aw akey (ncF aiv am) (hdF 23 ((L+16:Nat):Int)) (BB.take (L+16-16))).length:=by rw [hAl];show 0+_≤_;omega
      have hte:List.take (L+16) (List.drop (off []) (y4 aw akey (ncF aiv am) (hdF 23 ((L+16:Nat):Int)) (BB.take (L+16-16))))=y4 aw akey (ncF aiv am) (hdF 23 ((L+16:Nat):Int)) (BB.take (L+16-16)):=List.take_of_length_le (Nat.le_of_eq hAl)
      refine za ?_
      rw [hte]
      refine za ?_
      conv=>whnf
      exact ze [0,1] h
     ·have h:=hf (decide_eq_false fun hh=>hl hh.2)
      repeat ((conv=>whnf);first|refine zu ?_|refine zi ?_|refine zj ?_|refine zb ?_|refine zw (by first|exact dk|(rw [dk];rfl)) ?_|refine zo (by first|exact dk|(rw [dk];rfl)) ?_|refine zn (by first|exact dk|(rw [dk];rfl)) ?_)
      conv=>whnf
      exact ze [0,1] h
    ·have dk:=decide_eq_false hk
     have h:=hf (decide_eq_false fun hh=>hk hh.1)
     repeat ((conv=>whnf);first|refine zu ?_|refine zi ?_|refine zj ?_|refine zb ?_|refine zw (by first|exact dk|(rw [dk];rfl)) ?_|refine zo (by first|exact dk|(rw [dk];rfl)) ?_|refine zn (by first|exact dk|(rw [dk];rfl)) ?_)
     conv=>whnf
     exact ze [0,1] h
   ·rename_i kind s t0 p held f tka aw akey aiv am tkb bw bkey biv bm
    obtain ⟨⟨hok,hp0,hp1,hs⟩,h⟩:=zl h
    obtain ⟨ht,hf⟩:=zy h
    by_cases hk:y6 kind
    ·have dk:=decide_eq_true hk
     by_cases hl:s.length≤16384
     ·have h:=ht (decide_eq_true ⟨hk,hl⟩)
      have hky:=zhb hok
      obtain ⟨hw,hkl,hiv,hm0,hm1⟩:=hok
      have hnl:=zsr aiv am
      have hin:0≤(s.length:Int)∧(s.length:Int)≤16384∧0≤p∧p≤16384:=⟨by omega,by omega,hp0,hp1⟩
      obtain ⟨hi1,hi2⟩:=zr1 (p:=p) (n:=(s.length:Int)) (by omega) (by omega) hp0
      obtain ⟨L,hL⟩: ∃L:Nat,inL p (s.length:Int)=(L:Int):=⟨_,(Int.toNat_of_nonneg (by omega)).symm⟩
      have hLn:(inL p (s.length:Int)).toNat=L:=by rw [hL];exact Int.toNat_natCast _
      unfold yw za0 at h
      have hcast:(L:Int)+16=((L+16:Nat):Int):=by omega
      rw [hLn,hL,hcast] at h
      have hLt:((L:Int)+16).toNat=L+16:=by omega
      have hix:off (ye [] ((s.length:Int)).toNat ty5.sz)=s.length:=by rw [zv];show 0+((s.length:Int)).toNat*1=_;omega
      have hsl1:s.length+1≤L:=by omega
      have hB:=zuh (L:=L) (s:=s) hsl1 (UInt8.ofInt kind) hix
      obtain ⟨BB,hBB⟩: ∃BB,BB=s++UInt8.ofInt kind ::List.replicate (L+16-s.length-1) 0:=⟨_,rfl⟩
      have hBl:BB.length=L+16:=by rw [hBB,List.length_append,List.length_cons,List.length_replicate];omega
      have hBt:BB.take (L+16-16)=s++UInt8.ofInt kind ::List.replicate (L-s.length-1) 0:=by rw [hBB,Nat.add_sub_cancel];exact zo1 hsl1 _
      rw [←hBB] at hB
      have hps:off (ye [] ((s.length:Int)).toNat ty5.sz)<(z9 (List.replicate (L+16) 0) (off []) (List.take (min s.length (L+16)) s)).length:=by
        have:=congrArg List.length hB
        rw [List.length_set] at this
        rw [hix];omega
      have hhl:=zfe 23 ((L+16:Nat):Int)
      have hAl:(y4 aw akey (ncF aiv am) (hdF 23 ((L+16:Nat):Int)) (BB.take (L+16-16))).length=L+16:=by
        rw [za2,List.length_append,zbz,xp,List.length_take,hBl];omega
      have hpn:L+16=BB.length∧16≤L+16∧zob aw akey (ncF aiv am) (hdF 23 ((L+16:Nat):Int)) (((L+16:Nat):Int)+0-16):=⟨hBl.symm,by omega,hky,by rw [hnl,hiv],by omega,by omega⟩
      rw [←hBt] at h
      repeat ((conv=>whnf);first|refine zu ?_|refine zi ?_|refine zj ?_|refine zb ?_|refine zw (by first|exact dk|(rw [dk];rfl)) ?_|refine zo (by first|exact dk|(rw [dk];rfl)) ?_|refine zn (by first|exact dk|(rw [dk];rfl)) ?_)
      conv=>whnf
      rw [hL,hLt]
      refine za ?_
      rw [hB]
      have hpo:off []+(L+16)≤(y4 aw akey (ncF aiv am) (hdF 23 ((L+16:Nat):Int)) (BB.take (L+16-16))).length:=by rw [hAl];show 0+_≤_;omega
      have hte:List.take (L+16) (List.drop (off []) (y4 aw akey (ncF aiv am) (hdF 23 ((L+16:Nat):Int)) (BB.take (L+16-16))))=y4 aw akey (ncF aiv am) (hdF 23 ((L+16:Nat):Int)) (BB.take (L+16-16)):=List.take_of_length_le (Nat.le_of_eq hAl)
      refine za ?_
      rw [hte]
      refine za ?_
      conv=>whnf
      exact ze [0,1,2] h
     ·have h:=hf (decide_eq_false fun hh=>hl hh.2)
      repeat ((conv=>whnf);first|refine zu ?_|refine zi ?_|refine zj ?_|refine zb ?_|refine zw (by first|exact dk|(rw [dk];rfl)) ?_|refine zo (by first|exact dk|(rw [dk];rfl)) ?_|refine zn (by first|exact dk|(rw [dk];rfl)) ?_)
      conv=>whnf
      exact ze [0,1,2] h
    ·have dk:=decide_eq_false hk
     have h:=hf (decide_eq_false fun hh=>hk hh.1)
     repeat ((conv=>whnf);first|refine zu ?_|refine zi ?_|refine zj ?_|refine zb ?_|refine zw (by first|exact dk|(rw [dk];rfl)) ?_|refine zo (by first|exact dk|(rw [dk];rfl)) ?_|refine zn (by first|exact dk|(rw [dk];rfl)) ?_)
     conv=>whnf
     exact ze [0,1,2] h
   ·exact h.elim
def zwc:Spec:=fun args hp K=>match args,hp with
  | [.ptr 0 0 0 [],.int kind,.str s],[.mk t0 [.int p,.nilptr,.nilptr,.str held,.int f]]=>Pre (s.length≤140737488351232) (zx (decide (y6 kind∧s.length≤16384)) (K (.tup [.str (hdF kind s.length++s),.int 0]) [.mk t0 [.int p,.nilptr,.nilptr,.str held,.int f]]) (K (.tup [.str [],.int 2100]) [.mk t0 [.int p,.nilptr,.nilptr,.str held,.int f]]))
  | [.ptr 0 0 0 [],.int kind,.str s],[.mk t0 [.int p,.nilptr,.ptr 1 0 0 [],.str held,.int f],.mk tkb [.int bw,.str bkey,.str biv,.int bm]]=>Pre (s.length≤140737488351232) (zx (decide (y6 kind∧s.length≤16384)) (K (.tup [.str (hdF kind s.length++s),.int 0]) [.mk t0 [.int p,.nilptr,.ptr 1 0 0 [],.str held,.int f],.mk tkb [.int bw,.str bkey,.str biv,.int bm]]) (K (.tup [.str [],.int 2100]) [.mk t0 [.int p,.nilptr,.ptr 1 0 0 [],.str held,.int f],.mk tkb [.int bw,.str bkey,.str biv,.int bm]]))
  | [.ptr 0 0 0 [],.int kind,.str s],[.mk t0 [.int p,.ptr 1 0 0 [],.nilptr,.str held,.int f],.mk tka [.int aw,.str akey,.str aiv,.int am]]=>Pre (zd2 aw akey aiv am∧0≤p∧p≤16384∧s.length≤140737488351232) (zx (decide (y6 kind∧s.length≤16384)) (K (.tup [.str (yw p aw akey aiv am kind s),.int 0]) [.mk t0 [.int p,.ptr 1 0 0 [],.nilptr,.str held,.int f],.mk tka [.int aw,.str akey,.str aiv,.int (am+1)]]) (K (.tup [.str [],.int 2100]) [.mk t0 [.int p,.ptr 1 0 0 [],.nilptr,.str held,.int f],.mk tka [.int aw,.str akey,.str aiv,.int am]]))
  | [.ptr 0 0 0 [],.int kind,.str s],[.mk t0 [.int p,.ptr 1 0 0 [],.ptr 2 0 0 [],.str held,.int f],.mk tka [.int aw,.str akey,.str aiv,.int am],.mk tkb [.int bw,.str bkey,.str biv,.int bm]]=>Pre (zd2 aw akey aiv am∧0≤p∧p≤16384∧s.length≤140737488351232) (zx (decide (y6 kind∧s.length≤16384)) (K (.tup [.str (yw p aw akey aiv am kind s),.int 0]) [.mk t0 [.int p,.ptr 1 0 0 [],.ptr 2 0 0 [],.str held,.int f],.mk tka [.int aw,.str akey,.str aiv,.int (am+1)],.mk tkb [.int bw,.str bkey,.str biv,.int bm]]) (K (.tup [.str [],.int 2100]) [.mk t0 [.int p,.ptr 1 0 0 [],.ptr 2 0 0 [],.str held,.int f],.mk tka [.int aw,.str akey,.str aiv,.int am],.mk tkb [.int bw,.str bkey,.str biv,.int bm]]))
  |_,_=>False
set_option maxHeartbeats 4000000 in
theorem z70:zm prog 20 zwc:=by
  refine zk y3 (zc z85 zg) rfl func20 rfl call20 (D:=yh6) ?_ ?_
  ·intro args hp K h
   unfold zwc at h
   split at h
   ·exact Nat.le_of_ble_eq_true rfl
   ·exact Nat.le_of_ble_eq_true rfl
   ·exact Nat.le_of_ble_eq_true rfl
   ·exact Nat.le_of_ble_eq_true rfl
   ·exact h.elim
  ·intro args hp K h
   unfold zwc at h
   split at h
   ·rename_i kind s t0 p held f
    obtain ⟨hpre,h⟩:=zl h
    obtain ⟨ht,hf⟩:=zy h
    generalize e:decide (y6 kind∧s.length≤16384)=c at ht hf
    cases c
    ·have h:=hf rfl
     repeat ((conv=>whnf);first|refine zu ?_|refine zi ?_|refine zj ?_|refine zb ?_|refine zw (by first|exact e) ?_|refine zo (by first|exact e) ?_|refine zn (by first|exact e) ?_)
     conv=>whnf
     exact ze [0] h
    ·have h:=ht rfl
     repeat ((conv=>whnf);first|refine zu ?_|refine zi ?_|refine zj ?_|refine zb ?_|refine zw (by first|exact e) ?_|refine zo (by first|exact e) ?_|refine zn (by first|exact e) ?_)
     conv=>whnf
     exact ze [0] h
   ·rename_i kind s t0 p held f tkb bw bkey biv bm
    obtain ⟨hpre,h⟩:=zl h
    obtain ⟨ht,hf⟩:=zy h
    generalize e:decide (y6 kind∧s.length≤16384)=c at ht hf
    cases c
    ·have h:=hf rfl
     repeat ((conv=>whnf);first|refine zu ?_|refine zi ?_|refine zj ?_|refine zb ?_|refine zw (by first|exact e) ?_|refine zo (by first|exact e) ?_|refine zn (by first|exact e) ?_)
     conv=>whnf
     exact ze [0,1] h
    ·have h:=ht rfl
     repeat ((conv=>whnf);first|refine zu ?_|refine zi ?_|refine zj ?_|refine zb ?_|refine zw (by first|exact e) ?_|refine zo (by first|exact e) ?_|refine zn (by first|exact e) ?_)
     conv=>whnf
     exact ze [0,1] h
   ·rename_i kind s t0 p held f tka aw akey aiv am
    obtain ⟨hpre,h⟩:=zl h
    obtain ⟨ht,hf⟩:=zy h
    generalize e:decide (y6 kind∧s.length≤16384)=c at ht hf
    cases c
    ·have h:=hf rfl
     repeat ((conv=>whnf);first|refine zu ?_|refine zi ?_|refine zj ?_|refine zb ?_|refine zw (by first|exact e) ?_|refine zo (by first|exact e) ?_|refine zn (by first|exact e) ?_)
     conv=>whnf
     exact ze [0,1] h
    ·have h:=ht rfl
     repeat ((conv=>whnf);first|refine zu ?_|refine zi ?_|refine zj ?_|refine zb ?_|refine zw (by first|exact e) ?_|refine zo (by first|exact e) ?_|refine zn (by first|exact e) ?_)
     conv=>whnf
     exact ze [0,1] h
   ·rename_i kind s t0 p held f tka aw akey aiv am tkb bw bkey biv bm
    obtain ⟨hpre,h⟩:=zl h
    obtain ⟨ht,hf⟩:=zy h
    generalize e:decide (y6 kind∧s.length≤16384)=c at ht hf
    cases c
    ·have h:=hf rfl
     repeat ((conv=>whnf);first|refine zu ?_|refine zi ?_|refine zj ?_|refine zb ?_|refine zw (by first|exact e) ?_|refine zo (by first|exact e) ?_|refine zn (by first|exact e) ?_)
     conv=>whnf
     exact ze [0,1,2] h
    ·have h:=ht rfl
     repeat ((conv=>whnf);first|refine zu ?_|refine zi ?_|refine zj ?_|refine zb ?_|refine zw (by first|exact e) ?_|refine zo (by first|exact e) ?_|refine zn (by first|exact e) ?_)
     conv=>whnf
     exact ze [0,1,2] h
   ·exact h.elim
end Go.Sym.Z
