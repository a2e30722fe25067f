/-
  Contracts of functions of the program, each said of symbolic values, and plain laws; no condition beyond each statement's own.
-/
import Derived.Test.YtmmpgjcpielefaaGreatGLStreamTwins31
set_option linter.unusedSimpArgs false
set_option linter.unusedVariables false
namespace Go.Sym.Z
open Go Go.Proofs.Tryz Go.Sym.Lp Go.Sym.Gcm Go.Sym.Aes Go.Sym.Pol Go.Sym.Cha
set_option maxRecDepth 100000
attribute [local irreducible] za6 yl zg5 ze2 zeb xl zbb xe yi gst gtg gW gR gH two
def yaa:List (Nat×List PStep):= [(1,[⟨0,[]⟩,⟨1,[]⟩,⟨2,[]⟩,⟨3,[]⟩,⟨4,[0,1,2,3]⟩,⟨5,[0,1,2,3]⟩,⟨6,[0,1,2,3]⟩,⟨7,[0,1,2,3]⟩,⟨8,[0,1,2,3,4,5,6,7]⟩,⟨10,[0,1,2,3,4,5,6,7,8]⟩,⟨11,[0,1,2,3,4,5,6,7,8,10]⟩,⟨12,[0,1,2,3,4,5,6,7,8,10,11]⟩,⟨9,[0,1,2,3,4,5,6,7,10,11,12]⟩,⟨13,[]⟩,⟨14,[]⟩,⟨15,[]⟩,⟨16,[15]⟩,⟨17,[16]⟩,⟨18,[]⟩])]
def sbM (k:Nat) (sb:SV) (P:List (Nat×Nat)→Nat→Nat→Prop):Prop:=match sb with
  | .nilsl=>P [] 0 0
  | .sl j 0 0 ob nb cb=>match Nat.beq j k with|true=>P ob nb cb|false=>False
  |_=>False
theorem zn1 {k:Nat} {sb:SV} {P:List (Nat×Nat)→Nat→Nat→Prop} (h:sbM k sb P): ∃ob nb cb,(sb= .nilsl∧ob= []∧nb=0∧cb=0∨sb= .sl k 0 0 ob nb cb)∧P ob nb cb:=by
  unfold sbM at h
  split at h
  ·exact ⟨[],0,0,.inl ⟨rfl,rfl,rfl,rfl⟩,h⟩
  ·split at h
   ·rename_i e;exact ⟨_,_,_,.inr (by rw [Nat.eq_of_beq_eq_true e]),h⟩
   ·exact h.elim
  ·exact h.elim
theorem zv6 {l:List UInt8} {a na b nb:Nat} (ha:a+na≤l.length) (hb:b+nb≤l.length):(two l a na b nb).length=na+nb:=by
  unfold two;simp only [List.length_append,List.length_take,List.length_drop];omega
def ztf:Spec:=fun args hp K=>match args,hp with
  | [.agg [.sl 0 0 0 oa na ca,sb]],[.mk t [.arr8 m l]]=>sbM 0 sb fun ob nb _=>Pre (off oa+na≤l.length∧off ob+nb≤l.length∧0<na+nb∧na+nb≤100000)
      (zag fun x:List UInt8=>K (.sl 1 0 0 [] (na+nb) (na+nb+x.length)) [.mk t [.arr8 m l],.mk 5 [.arr8 (na+nb+x.length) (two l (off oa) na (off ob) nb++x)]])
  |_,_=>False
theorem z5z:zp prog 89 ztf:=by
  refine zn zax zl rfl func89 rfl call89 (D:=yat) ?_ ?_
  ·intro args hp K h
   unfold ztf at h
   split at h
   ·exact Nat.le_of_ble_eq_true rfl
   ·exact h.elim
  ·intro args hp K h
   unfold ztf at h
   split at h
   ·rename_i oa na ca sb t m l
    obtain ⟨ob,nb,cb,hsb,h9⟩:=zn1 h
    clear h
    obtain ⟨⟨ha,hb,h0,h1⟩,h⟩:=zm h9
    clear h9
    have hla:(List.take na (List.drop (off oa) l)).length=na:=by rw [List.length_take,List.length_drop];omega
    have hlb:(List.take nb (List.drop (off ob) l)).length=nb:=by rw [List.length_take,List.length_drop];omega
    have h2:two l (off oa) na (off ob) nb=List.take na (List.drop (off oa) l)++List.take nb (List.drop (off ob) l):=by unfold two;rfl
    rw [h2] at h
    clear h2
    rcases hsb with ⟨e1,e2,e3,e4⟩|e1
    ·subst e1 e2 e3 e4
     refine za ?_
     refine yh fun t1=>?_
     refine za ?_
     refine zr ⟨by omega,by rw [List.length_append],by show _+0≤_;omega⟩ ?_
     refine za ?_
     refine yh fun t2=>?_
     have h:=xp h t2
     rw [List.take_zero,List.append_nil,Nat.add_zero] at h
     refine za ?_
     rw [List.take_left' rfl,hla,List.length_nil,Nat.add_zero,List.append_nil]
     conv=>whnf
     exact zh [0,3] h
    ·subst e1
     by_cases g1:na=0
     ·refine za ?_
      refine yh fun t1=>?_
      have h:=xp h t1
      have e0:List.take na (List.drop (off oa) l)= []:=List.length_eq_zero_iff.1 (by omega)
      rw [e0,List.nil_append,g1,Nat.zero_add] at h
      refine za ?_
      rw [hlb]
      conv=>whnf
      exact zh [0,2] h
     ·refine za ?_
      refine yh fun t1=>?_
      refine za ?_
      refine zr ⟨by omega,by rw [List.length_append],by omega⟩ ?_
      refine za ?_
      refine yh fun t2=>?_
      have h:=xp h t2
      refine za ?_
      rw [List.take_left' rfl,hla,hlb]
      conv=>whnf
      exact zh [0,3] h
   ·exact h.elim
def zl7:Spec:=fun args hp K=>match args,hp with
  | [.agg [.sl 0 0 0 oa na ca,sb],.sl 1 0 0 [] N c],[.mk t [.arr8 m l],.mk t2 [.arr8 M s]]=>sbM 0 sb fun ob nb _=>Pre (N=na+nb∧off oa+na≤l.length∧off ob+nb≤l.length∧N≤s.length∧N≤c)
      (K (.tup []) [.mk t [.arr8 m (zbb l (off oa) na (off ob) nb s)],.mk t2 [.arr8 M s]])
  |_,_=>False
theorem zwz:zp prog 93 zl7:=by
  refine zn zax zl rfl func93 rfl call93 (D:=ybc) ?_ ?_
  ·intro args hp K h
   unfold zl7 at h
   split at h
   ·exact Nat.le_of_ble_eq_true rfl
   ·exact h.elim
  ·intro args hp K h
   unfold zl7 at h
   split at h
   ·rename_i oa na ca sb N c t m l t2 M s
    obtain ⟨ob,nb,cb,hsb,h9⟩:=zn1 h
    clear h
    obtain ⟨⟨hN,ha,hb,hs,hc⟩,h2⟩:=zm h9
    clear h9
    subst hN
    have hl1:(List.take (na+nb) (List.drop (off []) s)).length=na+nb:=by rw [List.length_take,List.length_drop];show min _ (s.length-0)=_;omega
    have hmn:(((min (List.take (na+nb) (List.drop (off []) s)).length na:Nat):Int)).toNat=na:=by rw [hl1];omega
    have hsl:off (yb [] (slO c na) ty5.sz)+(na+nb-na)≤s.length:=by
      rw [zy]
      show 0+slO c na*1+_≤_
      by_cases e:c=na
      ·unfold slO;split<;>omega
      ·rw [yy e];omega
    have hA:(List.take (min (List.take (na+nb) (List.drop (off []) s)).length na) (List.take (na+nb) (List.drop (off []) s)))=s.take na:=by
      rw [hl1,Nat.min_eq_right (by omega)]
      show List.take na (List.take (na+nb) (List.drop 0 s))=_
      rw [List.drop_zero,List.take_take,Nat.min_eq_left (by omega)]
    have hB:List.take (min (List.take (na+nb-na) (List.drop (off (yb [] (slO c na) ty5.sz)) s)).length nb) (List.take (na+nb-na) (List.drop (off (yb [] (slO c na) ty5.sz)) s))=(s.drop na).take nb:=by
      have hbl:(List.take (na+nb-na) (List.drop (off (yb [] (slO c na) ty5.sz)) s)).length≤nb:=by rw [List.length_take];omega
      rw [List.take_of_length_le (by omega),show na+nb-na=nb by omega]
      by_cases e:nb=0
      ·rw [e];rfl
      ·rw [zy,yy (show c≠na by omega)]
       show List.take nb (List.drop (0+na*1) s)=_
       rw [Nat.zero_add,Nat.mul_one]
    have hBl:min (List.take (na+nb-na) (List.drop (off (yb [] (slO c na) ty5.sz)) s)).length nb≤nb:=Nat.min_le_right _ _
    have hsl2:(zw l (off oa) (List.take (min (List.take (na+nb) (List.drop (off []) s)).length na) (List.take (na+nb) (List.drop (off []) s)))).length=l.length:=by
      rw [hA]
      unfold zw
      simp only [List.length_append,List.length_take,List.length_drop]
      omega
    rcases hsb with ⟨e1,e2,e3,e4⟩|e1
    ·subst e1 e2 e3 e4
     refine za ?_
     rw [hmn]
     refine za ?_
     refine yv (hp':= [.mk t [.arr8 m (zbb l (off oa) na (off []) 0 s)],.mk t2 [.arr8 M s]]) [0,1] h2 ?_
     repeat ((conv=>whnf);refine zb ?_)
     conv=>whnf
     exact zx (congrArg (fun x=>SV.agg [SV.arr8 m x]) (by rw [hA];unfold zbb;rw [List.take_zero];show _=zw (zw _ _ _) 0 [];generalize zw l (off oa) (List.take na s)=y;simp [zw]))
    ·subst e1
     refine za ?_
     rw [hmn]
     refine za ?_
     refine yv (hp':= [.mk t [.arr8 m (zbb l (off oa) na (off ob) nb s)],.mk t2 [.arr8 M s]]) [0,1] h2 ?_
     repeat ((conv=>whnf);refine zb ?_)
     conv=>whnf
     exact zx (congrArg (fun x=>SV.agg [SV.arr8 m x]) (by rw [hA,hB];unfold zbb;rfl))
   ·exact h.elim
theorem ybo {T x:List UInt8} {N:Nat} {z:Int} (hT:T.length=N) (h16:16≤N) (hz:z=(N:Int)-16) (st tg:List UInt8→List UInt8) (hs: ∀b,(st b).length=b.length):
    (T++x).length=N+x.length∧off (yb [] (slO (N+x.length) z.toNat) ty5.sz)+(N-z.toNat)≤(T++x).length∧z.toNat≤(T++x).length∧z.toNat≤N+x.length∧(0≤z∧ ¬z<0)∧
    (st (List.take z.toNat (T++x))++List.drop z.toNat (T++x))=(st (T.take (N-16))++T.drop (N-16))++x∧
    (st (List.take z.toNat (T++x))++List.drop z.toNat (T++x)).length=N+x.length∧
    decide (tg (List.take z.toNat (T++x))=List.take (N-z.toNat) (List.drop (off (yb [] (slO (N+x.length) z.toNat) ty5.sz)) (T++x)))=decide (tg (T.take (N-16))=T.drop (N-16)):=by
  have hl:(T++x).length=N+x.length:=by rw [List.length_append,hT]
  have hzn:z.toNat=N-16:=by omega
  have hof:off (yb [] (slO (N+x.length) z.toNat) ty5.sz)=N-16:=by
    rw [hzn,zy,yy (by omega)]
    show 0+(N-16)*1=_
    omega
  have h1:List.take z.toNat (T++x)=T.take (N-16):=by rw [hzn,List.take_append_of_le_length (by omega)]
  have h2:List.drop z.toNat (T++x)=T.drop (N-16)++x:=by rw [hzn,List.drop_append_of_le_length (by omega)]
  have h3:List.take (N-z.toNat) (List.drop (N-16) (T++x))=T.drop (N-16):=by
    rw [hzn,List.drop_append_of_le_length (by omega),List.take_left' (by rw [List.length_drop];omega)]
  refine ⟨hl,by rw [hof,hl];omega,by omega,by omega,by omega,by rw [h1,h2,List.append_assoc],?_,by rw [hof,h1,h3]⟩
  rw [h1,h2,List.length_append,List.length_append,hs,List.length_take,List.length_drop]
  omega
def zma:Spec:=fun args hp K=>match args,hp with
  | [.int w,.str key,.str nonce,.str aad,.sl 0 0 0 oa na ca,sb],[.mk t [.arr8 m l]]=>sbM 0 sb fun ob nb _=>Pre (off oa+na≤l.length∧off ob+nb≤l.length∧na+nb≤20000∧zd5 w key.length∧nonce.length=12∧aad.length≤65536)
      (zv (decide (16≤na+nb∧xe w key nonce aad ((two l (off oa) na (off ob) nb).take (na+nb-16))=(two l (off oa) na (off ob) nb).drop (na+nb-16)))
          (K (.tup [.int (((na+nb:Nat):Int)-16),.int 0]) [.mk t [.arr8 m (zbb l (off oa) na (off ob) nb (yi w key nonce ((two l (off oa) na (off ob) nb).take (na+nb-16))++(two l (off oa) na (off ob) nb).drop (na+nb-16)))]])
          (K (.tup [.int 0,.int 801]) [.mk t [.arr8 m l]]))
  |_,_=>False
set_option maxHeartbeats 4000000 in
theorem zw5:zp prog 131 zma:=by
  refine zn zax (zd zud (zd z5z (zd zj2 (zd zze (zd z2o (zd zwz zl)))))) rfl func131 rfl call131 (D:=ya9) ?_ ?_
  ·intro args hp K h
   unfold zma at h
   split at h
   ·exact Nat.le_of_ble_eq_true rfl
   ·exact h.elim
  ·intro args hp K h
   unfold zma at h
   split at h
   ·rename_i w key nonce aad oa na ca sb t m l
    obtain ⟨ob,nb,cb,hsb,h9⟩:=zn1 h
    clear h
    obtain ⟨⟨ha,hb,hab,hk,h1,h2⟩,h8⟩:=zm h9
    clear h9
    obtain ⟨ht,hn⟩:=zt h8
    clear h8
    obtain ⟨z,hz⟩: ∃z,z=((na+nb:Nat):Int)-16:=⟨_,rfl⟩
    have hd:decide (zd5 w key.length∧nonce.length=12∧aad.length≤65536∧z≤65536)=true:=decide_eq_true ⟨hk,h1,h2,by omega⟩
    unfold zd5 at hk
    rw [←hz] at ht
    have hTl:=zv6 ha hb
    by_cases h16:16≤na+nb
    ·have hpj:off oa+na≤l.length∧off ob+nb≤l.length∧0<na+nb∧na+nb≤100000:=⟨ha,hb,by omega,by omega⟩
     by_cases h4:w=4867
     ·skip
      have hTag:xe w key nonce aad=yl key nonce aad:=by funext b;unfold xe;rw [if_pos h4]
      have hStr:yi w key nonce=xl key nonce (UInt32.ofInt 1):=by funext b;unfold yi;rw [if_pos h4];rfl
      have F:=fun x:List UInt8=>ybo (x:=x) hTl h16 hz (xl key nonce (UInt32.ofInt 1)) (yl key nonce aad) (fun b=>zfa _ _ _ b)
      rw [hTag,hStr] at ht
      rw [hTag] at hn
      have hpt: ∀x:List UInt8,key.length=32∧nonce.length=12∧aad.length≤65536∧z.toNat≤65536∧z.toNat≤(two l (off oa) na (off ob) nb++x).length∧z.toNat≤na+nb+x.length:=fun x=>by
        obtain ⟨f1,f2,f3,f4,f5,f6,f7,f8⟩:=F x
        exact ⟨by omega,h1,h2,by omega,f3,f4⟩
      have hpx: ∀x:List UInt8,key.length=32∧nonce.length=12∧z.toNat≤(two l (off oa) na (off ob) nb++x).length∧z.toNat≤na+nb+x.length∧z.toNat≤9223372036854775807:=fun x=>by
        obtain ⟨f1,f2,f3,f4,f5,f6,f7,f8⟩:=F x
        exact ⟨by omega,h1,f3,f4,by omega⟩
      have hps: ∀x:List UInt8,na+nb=na+nb∧off oa+na≤l.length∧off ob+nb≤l.length∧na+nb≤(xl key nonce (UInt32.ofInt 1) (List.take z.toNat (two l (off oa) na (off ob) nb++x))++List.drop z.toNat (two l (off oa) na (off ob) nb++x)).length∧na+nb≤na+nb+x.length:=fun x=>by
        obtain ⟨f1,f2,f3,f4,f5,f6,f7,f8⟩:=F x
        exact ⟨rfl,ha,hb,by rw [f7];omega,by omega⟩
      have hfin: ∀x:List UInt8,zbb l (off oa) na (off ob) nb (xl key nonce (UInt32.ofInt 1) (List.take z.toNat (two l (off oa) na (off ob) nb++x))++List.drop z.toNat (two l (off oa) na (off ob) nb++x))=zbb l (off oa) na (off ob) nb (xl key nonce (UInt32.ofInt 1) (List.take (na+nb-16) (two l (off oa) na (off ob) nb))++List.drop (na+nb-16) (two l (off oa) na (off ob) nb)):=fun x=>by
        obtain ⟨f1,f2,f3,f4,f5,f6,f7,f8⟩:=F x
        rw [f6]
        exact zss (by rw [List.length_append,zfa,List.length_take,List.length_drop];omega)
      by_cases hq:yl key nonce aad (List.take (na+nb-16) (two l (off oa) na (off ob) nb))=List.drop (na+nb-16) (two l (off oa) na (off ob) nb)
      ·have h:=ht (decide_eq_true ⟨h16,hq⟩)
       have hdq:decide (yl key nonce aad (List.take (na+nb-16) (two l (off oa) na (off ob) nb))=List.drop (na+nb-16) (two l (off oa) na (off ob) nb))=true:=decide_eq_true hq
       rcases hsb with ⟨e1,e2,e3,e4⟩|e1
       case' inl=>
         subst e1 e2 e3 e4
         refine za ?_
         rw [show (na:Int)+0-16=z by omega]
       case' inr=>
         subst e1
         refine za ?_
         rw [show (na:Int)+(nb:Int)-16=z by omega]
       all_goals (
         repeat ((conv=>whnf);first|refine zo ?_|refine zf ?_|refine zg ?_|refine zb ?_|refine zr (by first|exact hd|(rw [hd];rfl)) ?_|refine zi (by first|exact hd|(rw [hd];rfl)) ?_|refine zj (by first|exact hd|(rw [hd];rfl)) ?_)
         conv=>whnf
         refine yh fun x=>?_
         obtain ⟨f1,f2,f3,f4,f5,f6,f7,f8⟩:=F x
         have hpt:=hpt x
         have hpx:=hpx x
         have hps:=hps x
         rw [hdq] at f8
         repeat ((conv=>whnf);first|refine zo ?_|refine zf ?_|refine zg ?_|refine zb ?_|refine zr (by first|exact f8|(rw [f8];rfl)) ?_|refine zi (by first|exact f8|(rw [f8];rfl)) ?_|refine zj (by first|exact f8|(rw [f8];rfl)) ?_)
         conv=>whnf
         refine yv (hp':= [.mk t [.arr8 m (zbb l (off oa) na _ _ _)]]) [0] h ?_
         repeat ((conv=>whnf);refine zb ?_)
         conv=>whnf
         exact zx (congrArg (fun y=>SV.agg [SV.arr8 m y]) (hfin x)))
      ·have h:=hn (decide_eq_false fun hh=>hq hh.2)
       have hdq:decide (yl key nonce aad (List.take (na+nb-16) (two l (off oa) na (off ob) nb))=List.drop (na+nb-16) (two l (off oa) na (off ob) nb))=false:=decide_eq_false hq
       rcases hsb with ⟨e1,e2,e3,e4⟩|e1
       case' inl=>
         subst e1 e2 e3 e4
         refine za ?_
         rw [show (na:Int)+0-16=z by omega]
       case' inr=>
         subst e1
         refine za ?_
         rw [show (na:Int)+(nb:Int)-16=z by omega]
       all_goals (
         repeat ((conv=>whnf);first|refine zo ?_|refine zf ?_|refine zg ?_|refine zb ?_|refine zr (by first|exact hd|(rw [hd];rfl)) ?_|refine zi (by first|exact hd|(rw [hd];rfl)) ?_|refine zj (by first|exact hd|(rw [hd];rfl)) ?_)
         conv=>whnf
         refine yh fun x=>?_
         obtain ⟨f1,f2,f3,f4,f5,f6,f7,f8⟩:=F x
         have hpt:=hpt x
         have hpx:=hpx x
         have hps:=hps x
         rw [hdq] at f8
         repeat ((conv=>whnf);first|refine zo ?_|refine zf ?_|refine zg ?_|refine zb ?_|refine zr (by first|exact f8|(rw [f8];rfl)) ?_|refine zi (by first|exact f8|(rw [f8];rfl)) ?_|refine zj (by first|exact f8|(rw [f8];rfl)) ?_)
         conv=>whnf
         exact zh [0] h)
     ·skip
      have hWl:=zq5 (key:=key) (by omega)
      have hR7:gR key=key.length/ 4+7:=by unfold gR;rfl
      have hTag:xe w key nonce aad=gtg (gW key) (gR key) ((gH (gW key) (gR key)).1,(gH (gW key) (gR key)).2) nonce aad:=by funext b;unfold xe;rw [if_neg h4];unfold ze2;rfl
      have hStr:yi w key nonce=gst (gW key) (gR key) nonce 2:=by funext b;unfold yi;rw [if_neg h4];unfold zeb;rfl
      have F:=fun x:List UInt8=>ybo (x:=x) hTl h16 hz (gst (gW key) (gR key) nonce 2) (gtg (gW key) (gR key) ((gH (gW key) (gR key)).1,(gH (gW key) (gR key)).2) nonce aad) (fun b=>zkf _ _ _ _ b)
      rw [hTag,hStr] at ht
      rw [hTag] at hn
      have hpt: ∀x:List UInt8,box=box∧nonce.length=12∧1≤gR key∧gR key≤100∧16*gR key≤(gW key).length∧z.toNat≤(two l (off oa) na (off ob) nb++x).length∧z.toNat≤na+nb+x.length∧aad.length≤65536∧z.toNat≤70000:=fun x=>by
        obtain ⟨f1,f2,f3,f4,f5,f6,f7,f8⟩:=F x
        exact ⟨rfl,h1,by omega,by omega,by omega,f3,f4,h2,by omega⟩
      have hpx: ∀x:List UInt8,box=box∧nonce.length=12∧1≤gR key∧gR key≤100∧16*gR key≤(gW key).length∧z.toNat≤(two l (off oa) na (off ob) nb++x).length∧z.toNat≤na+nb+x.length∧z.toNat≤9223372036854775807:=fun x=>by
        obtain ⟨f1,f2,f3,f4,f5,f6,f7,f8⟩:=F x
        exact ⟨rfl,h1,by omega,by omega,by omega,f3,f4,by omega⟩
      have hps: ∀x:List UInt8,na+nb=na+nb∧off oa+na≤l.length∧off ob+nb≤l.length∧na+nb≤(gst (gW key) (gR key) nonce 2 (List.take z.toNat (two l (off oa) na (off ob) nb++x))++List.drop z.toNat (two l (off oa) na (off ob) nb++x)).length∧na+nb≤na+nb+x.length:=fun x=>by
        obtain ⟨f1,f2,f3,f4,f5,f6,f7,f8⟩:=F x
        exact ⟨rfl,ha,hb,by rw [f7];omega,by omega⟩
      have hfin: ∀x:List UInt8,zbb l (off oa) na (off ob) nb (gst (gW key) (gR key) nonce 2 (List.take z.toNat (two l (off oa) na (off ob) nb++x))++List.drop z.toNat (two l (off oa) na (off ob) nb++x))=zbb l (off oa) na (off ob) nb (gst (gW key) (gR key) nonce 2 (List.take (na+nb-16) (two l (off oa) na (off ob) nb))++List.drop (na+nb-16) (two l (off oa) na (off ob) nb)):=fun x=>by
        obtain ⟨f1,f2,f3,f4,f5,f6,f7,f8⟩:=F x
        rw [f6]
        exact zss (by rw [List.length_append,zkf,List.length_take,List.length_drop];omega)
      by_cases hq:gtg (gW key) (gR key) ((gH (gW key) (gR key)).1,(gH (gW key) (gR key)).2) nonce aad (List.take (na+nb-16) (two l (off oa) na (off ob) nb))=List.drop (na+nb-16) (two l (off oa) na (off ob) nb)
      ·have h:=ht (decide_eq_true ⟨h16,hq⟩)
       have hdq:decide (gtg (gW key) (gR key) ((gH (gW key) (gR key)).1,(gH (gW key) (gR key)).2) nonce aad (List.take (na+nb-16) (two l (off oa) na (off ob) nb))=List.drop (na+nb-16) (two l (off oa) na (off ob) nb))=true:=decide_eq_true hq
       rcases hsb with ⟨e1,e2,e3,e4⟩|e1
       case' inl=>
         subst e1 e2 e3 e4
         refine za ?_
         rw [show (na:Int)+0-16=z by omega]
       case' inr=>
         subst e1
         refine za ?_
         rw [show (na:Int)+(nb:Int)-16=z by omega]
       all_goals (
         repeat ((conv=>whnf);first|refine zo ?_|refine zf ?_|refine zg ?_|refine zb ?_|refine zr (by first|exact hd|(rw [hd];rfl)) ?_|refine zi (by first|exact hd|(rw [hd];rfl)) ?_|refine zj (by first|exact hd|(rw [hd];rfl)) ?_)
         conv=>whnf
         refine yh fun x=>?_
         obtain ⟨f1,f2,f3,f4,f5,f6,f7,f8⟩:=F x
         have hpt:=hpt x
         have hpx:=hpx x
         have hps:=hps x
         rw [hdq] at f8
         repeat ((conv=>whnf);first|refine zo ?_|refine zf ?_|refine zg ?_|refine zb ?_|refine zr (by first|exact f8|(rw [f8];rfl)) ?_|refine zi (by first|exact f8|(rw [f8];rfl)) ?_|refine zj (by first|exact f8|(rw [f8];rfl)) ?_)
         conv=>whnf
         refine yv (hp':= [.mk t [.arr8 m (zbb l (off oa) na _ _ _)]]) [0] h ?_
         repeat ((conv=>whnf);refine zb ?_)
         conv=>whnf
         exact zx (congrArg (fun y=>SV.agg [SV.arr8 m y]) (hfin x)))
      ·have h:=hn (decide_eq_false fun hh=>hq hh.2)
       have hdq:decide (gtg (gW key) (gR key) ((gH (gW key) (gR key)).1,(gH (gW key) (gR key)).2) nonce aad (List.take (na+nb-16) (two l (off oa) na (off ob) nb))=List.drop (na+nb-16) (two l (off oa) na (off ob) nb))=false:=decide_eq_false hq
       rcases hsb with ⟨e1,e2,e3,e4⟩|e1
       case' inl=>
         subst e1 e2 e3 e4
         refine za ?_
         rw [show (na:Int)+0-16=z by omega]
       case' inr=>
         subst e1
         refine za ?_
         rw [show (na:Int)+(nb:Int)-16=z by omega]
       all_goals (
         repeat ((conv=>whnf);first|refine zo ?_|refine zf ?_|refine zg ?_|refine zb ?_|refine zr (by first|exact hd|(rw [hd];rfl)) ?_|refine zi (by first|exact hd|(rw [hd];rfl)) ?_|refine zj (by first|exact hd|(rw [hd];rfl)) ?_)
         conv=>whnf
         refine yh fun x=>?_
         obtain ⟨f1,f2,f3,f4,f5,f6,f7,f8⟩:=F x
         have hpt:=hpt x
         have hpx:=hpx x
         have hps:=hps x
         rw [hdq] at f8
         repeat ((conv=>whnf);first|refine zo ?_|refine zf ?_|refine zg ?_|refine zb ?_|refine zr (by first|exact f8|(rw [f8];rfl)) ?_|refine zi (by first|exact f8|(rw [f8];rfl)) ?_|refine zj (by first|exact f8|(rw [f8];rfl)) ?_)
         conv=>whnf
         exact zh [0] h)
    ·have h:=hn (decide_eq_false fun hh=>h16 hh.1)
     rcases hsb with ⟨e1,e2,e3,e4⟩|e1
     case' inl=>
       subst e1 e2 e3 e4
       refine za ?_
       rw [show (na:Int)+0-16=z by omega]
     case' inr=>
       subst e1
       refine za ?_
       rw [show (na:Int)+(nb:Int)-16=z by omega]
     all_goals (
       repeat ((conv=>whnf);first|refine zo ?_|refine zf ?_|refine zg ?_|refine zb ?_|refine zr (by first|exact hd|(rw [hd];rfl)) ?_|refine zi (by first|exact hd|(rw [hd];rfl)) ?_|refine zj (by first|exact hd|(rw [hd];rfl)) ?_)
       conv=>whnf
       exact zh [0] h)
   ·exact h.elim
attribute [local irreducible] kyF ivF ncF
def zl4:Spec:=fun args hp K=>match args,hp with
  | [.ptr 0 0 0 [],.str hd,.sl 1 0 0 oa na ca,sb],[.mk t [.int w,.str key,.str iv,.int q],.mk u [.arr8 m l]]=>sbM 1 sb fun ob nb _=>Pre (zcu w key iv q∧hd.length≤100∧na+nb≤20000∧off oa+na≤l.length∧off ob+nb≤l.length)
      (zv (decide (16≤na+nb∧xe w key (ncF iv q) hd ((two l (off oa) na (off ob) nb).take (na+nb-16))=(two l (off oa) na (off ob) nb).drop (na+nb-16)))
          (K (.tup [.int (((na+nb:Nat):Int)-16),.bool true]) [.mk t [.int w,.str key,.str iv,.int (q+1)],.mk u [.arr8 m (zbb l (off oa) na (off ob) nb (yi w key (ncF iv q) ((two l (off oa) na (off ob) nb).take (na+nb-16))++(two l (off oa) na (off ob) nb).drop (na+nb-16)))]])
          (K (.tup [.int 0,.bool false]) [.mk t [.int w,.str key,.str iv,.int q],.mk u [.arr8 m l]]))
  |_,_=>False
theorem zw7:zp prog 111 zl4:=by
  refine zn yw (zd zks (zd zw5 zl)) rfl func111 rfl call111 (D:=yaa) ?_ ?_
  ·intro args hp K h
   unfold zl4 at h
   split at h
   ·exact Nat.le_of_ble_eq_true rfl
   ·exact h.elim
  ·intro args hp K h
   unfold zl4 at h
   split at h
   ·rename_i h' oa na ca sb t w key iv q u m l
    obtain ⟨ob,nb,cb,hsb,h9⟩:=zn1 h
    clear h
    obtain ⟨⟨hok,hh,hs,ha,hb⟩,h8⟩:=zm h9
    clear h9
    obtain ⟨ht,hf⟩:=zt h8
    clear h8
    have hky:=zfs hok
    obtain ⟨hw,hkl,hiv,hm0,hm1⟩:=hok
    have hnl:=zh4 iv q
    have hp:off oa+na≤l.length∧off ob+nb≤l.length∧na+nb≤20000∧zd5 w key.length∧(ncF iv q).length=12∧h'.length≤65536:=⟨ha,hb,hs,hky,by rw [hnl,hiv],by omega⟩
    generalize e:decide (16≤na+nb∧xe w key (ncF iv q) h' ((two l (off oa) na (off ob) nb).take (na+nb-16))=(two l (off oa) na (off ob) nb).drop (na+nb-16))=c at ht hf
    cases c
    ·have h:=hf rfl
     rcases hsb with ⟨e1,e2,e3,e4⟩|e1
     case' inl=>subst e1 e2 e3 e4
     case' inr=>subst e1
     all_goals (
       repeat ((conv=>whnf);first|refine zo ?_|refine zf ?_|refine zg ?_|refine zb ?_|refine zr (by first|exact e) ?_|refine zi (by first|exact e) ?_|refine zj (by first|exact e) ?_)
       conv=>whnf
       exact zh [0,1] h)
    ·have h:=ht rfl
     rcases hsb with ⟨e1,e2,e3,e4⟩|e1
     case' inl=>subst e1 e2 e3 e4
     case' inr=>subst e1
     all_goals (
       repeat ((conv=>whnf);first|refine zo ?_|refine zf ?_|refine zg ?_|refine zb ?_|refine zr (by first|exact e) ?_|refine zi (by first|exact e) ?_|refine zj (by first|exact e) ?_)
       conv=>whnf
       exact zh [0,1] h)
   ·exact h.elim
end Go.Sym.Z

namespace Go.Sym.Z
open Go Go.Proofs.Tryz Go.Sym.Lp Go.Sym.Ring Go.Sym.Cha Go.Sym.Sha Go.Sym.Hk
set_option maxRecDepth 100000
attribute [local irreducible] zab exF kyF ivF yx xe yi inL ncF hdF
def ycb:List (Nat×List PStep):= []
def yc2:List (Nat×List PStep):= []
def yco:List (Nat×List PStep):= []
def ycz:List (Nat×List PStep):= []
def yb0:List (Nat×List PStep):= []
def ycf:List (Nat×List PStep):= []
def ydl:List (Nat×List PStep):= []
def yde:List (Nat×TyI):= [(3,ty3),(4,ty4),(5,ty5),(9,ty9),(48,zcp),(51,zco),(113,x4),(99,x3),(103,zck),(68,zgw),(70,zg0),(104,zcj),(97,zin),(56,zit),(121,zc3),(93,zhk),(43,zgz)]
theorem x7: ∀t i,y3 yde t=some i→yp prog t i:=(zc ty3_ok (zc zbm (zc zbe (zc ty9_ok (zc zak (zc zam (zc zai (zc za7 (zc zdq (zc zgq (zc zgn (zc zds (zc zkm (zc zky (zc zfj (zc zim (zc zgo x1)))))))))))))))))
def yao:List Blk→Nat→List Nat
  | [],_=> []
  |_ ::bs,i=>i ::yao bs (i+1)
theorem y0 {n0:Nat} {r r':SV} {hp hp':List Blk} {K:SV→List Blk→Prop} (hk:K r' hp') (h:zde n0 (yao hp' 0) [(0,r)] hp [(0,r')] hp' True):zbi n0 r hp K:=yv _ hk h
def zaq (t0 t1 t2 t3 t4:TypeId) (p:Int) (W R:Option Kq) (f:Int) (n c m:Nat) (b h:Int) (l:List UInt8):List Blk:=match W,R with
  |none,none=> [.mk t0 [.int p,.nilptr,.nilptr,.ptr 1 0 0 [],.int f],.mk t3 [.sl 2 0 0 [] n c,.int b,.int h],.mk t4 [.arr8 m l]]
  |some k,none=> [.mk t0 [.int p,.ptr 1 0 0 [],.nilptr,.ptr 2 0 0 [],.int f],.mk t1 [.int k.w,.str k.key,.str k.iv,.int k.m],.mk t3 [.sl 3 0 0 [] n c,.int b,.int h],.mk t4 [.arr8 m l]]
  |none,some r=> [.mk t0 [.int p,.nilptr,.ptr 1 0 0 [],.ptr 2 0 0 [],.int f],.mk t2 [.int r.w,.str r.key,.str r.iv,.int r.m],.mk t3 [.sl 3 0 0 [] n c,.int b,.int h],.mk t4 [.arr8 m l]]
  |some k,some r=> [.mk t0 [.int p,.ptr 1 0 0 [],.ptr 2 0 0 [],.ptr 3 0 0 [],.int f],.mk t1 [.int k.w,.str k.key,.str k.iv,.int k.m],.mk t2 [.int r.w,.str r.key,.str r.iv,.int r.m],.mk t3 [.sl 4 0 0 [] n c,.int b,.int h],.mk t4 [.arr8 m l]]
def stH (p:Int) (W R:Option Kq) (f:Int) (n:Nat) (b h:Int) (l:List UInt8):List Blk:=zaq 97 103 103 121 5 p W R f n n n b h l
def stM (hp:List Blk) (P:Int→Option Kq→Option Kq→Int→Nat→Int→Int→List UInt8→Prop):Prop:=match hp with
  | [.mk _ [.int p,.nilptr,.nilptr,.ptr 1 0 0 [],.int f],.mk _ [.sl 2 0 0 [] n c,.int b,.int h],.mk _ [.arr8 m l]]=>Pre (n=c∧n=m) (P p none none f n b h l)
  | [.mk _ [.int p,.ptr 1 0 0 [],.nilptr,.ptr 2 0 0 [],.int f],.mk _ [.int aw,.str ak,.str ai,.int am],.mk _ [.sl 3 0 0 [] n c,.int b,.int h],.mk _ [.arr8 m l]]=>Pre (n=c∧n=m) (P p (some ⟨aw,ak,ai,am⟩) none f n b h l)
  | [.mk _ [.int p,.nilptr,.ptr 1 0 0 [],.ptr 2 0 0 [],.int f],.mk _ [.int bw,.str bk,.str bi,.int bm],.mk _ [.sl 3 0 0 [] n c,.int b,.int h],.mk _ [.arr8 m l]]=>Pre (n=c∧n=m) (P p none (some ⟨bw,bk,bi,bm⟩) f n b h l)
  | [.mk _ [.int p,.ptr 1 0 0 [],.ptr 2 0 0 [],.ptr 3 0 0 [],.int f],.mk _ [.int aw,.str ak,.str ai,.int am],.mk _ [.int bw,.str bk,.str bi,.int bm],.mk _ [.sl 4 0 0 [] n c,.int b,.int h],.mk _ [.arr8 m l]]=>Pre (n=c∧n=m) (P p (some ⟨aw,ak,ai,am⟩) (some ⟨bw,bk,bi,bm⟩) f n b h l)
  |_=>False
theorem zdu {hp:List Blk} {P:Int→Option Kq→Option Kq→Int→Nat→Int→Int→List UInt8→Prop} (hh:stM hp P):
    ∃t0 t1 t2 t3 t4 p W R f n b h l,hp=zaq t0 t1 t2 t3 t4 p W R f n n n b h l∧P p W R f n b h l:=by
  unfold stM at hh
  split at hh
  ·rename_i t0 p f t3 n c b h t4 m l;obtain ⟨⟨e1,e2⟩,h8⟩:=zm hh;clear hh;subst e1 e2;exact ⟨t0,0,0,t3,t4,p,none,none,f,n,b,h,l,rfl,h8⟩
  ·rename_i t0 p f t1 aw ak ai am t3 n c b h t4 m l;obtain ⟨⟨e1,e2⟩,h8⟩:=zm hh;clear hh;subst e1 e2;exact ⟨t0,t1,0,t3,t4,p,some ⟨aw,ak,ai,am⟩,none,f,n,b,h,l,rfl,h8⟩
  ·rename_i t0 p f t1 aw ak ai am t3 n c b h t4 m l;obtain ⟨⟨e1,e2⟩,h8⟩:=zm hh;clear hh;subst e1 e2;exact ⟨t0,0,t1,t3,t4,p,none,some ⟨aw,ak,ai,am⟩,f,n,b,h,l,rfl,h8⟩
  ·rename_i t0 p f t1 aw ak ai am t2 bw bk bi bm t3 n c b h t4 m l;obtain ⟨⟨e1,e2⟩,h8⟩:=zm hh;clear hh;subst e1 e2;exact ⟨t0,t1,t2,t3,t4,p,some ⟨aw,ak,ai,am⟩,some ⟨bw,bk,bi,bm⟩,f,n,b,h,l,rfl,h8⟩
  ·exact hh.elim
def zq6:Spec:=fun args hp K=>match args with
  | [.ptr 0 0 0 []]=>stM hp fun p W R f n b h l=>K (.int h) (stH p W R f n b h l)
  |_=>False
theorem zva:zp prog 34 zq6:=by
  refine zn x7 (zd z2q zl) rfl func34 rfl call34 (D:=ycf) ?_ ?_
  ·intro args hp K h
   unfold zq6 at h
   split at h
   ·exact Nat.le_of_ble_eq_true rfl
   ·exact h.elim
  ·intro args hp K h
   unfold zq6 at h
   split at h
   ·obtain ⟨t0,t1,t2,t3,t4,p,W,R,f,n,b,hh,l,ehp,h9⟩:=zdu h
    clear h
    subst ehp
    have h:=h9
    clear h9
    rcases W with _|⟨aw,ak,ai,am⟩<;>rcases R with _|⟨bw,bk,bi,bm⟩
    all_goals (
      dsimp only [zaq]
      refine za ?_
      refine y0 h ?_
      exact zu)
   ·exact h.elim
def ya3:Option Kq→Int
  |none=>0
  |some k=>k.m
def zef:Spec:=fun args hp K=>match args with
  | [.ptr 0 0 0 []]=>stM hp fun p W R f n b h l=>K (.int (ya3 W)) (stH p W R f n b h l)
  |_=>False
set_option maxHeartbeats 4000000 in
theorem z3a:zp prog 52 zef:=by
  refine zn x7 zl rfl func52 rfl call52 (D:=z89) ?_ ?_
  ·intro args hp K h
   unfold zef at h
   split at h
   ·exact Nat.le_of_ble_eq_true rfl
   ·exact h.elim
  ·intro args hp K h
   unfold zef at h
   split at h
   ·obtain ⟨t0,t1,t2,t3,t4,p,W,R,f,n,b,hh,l,ehp,h9⟩:=zdu h
    clear h
    subst ehp
    have h:=h9
    clear h9
    rcases W with _|⟨aw,ak,ai,am⟩<;>rcases R with _|⟨bw,bk,bi,bm⟩
    all_goals (
      dsimp only [zaq]
      refine za ?_
      refine y0 h ?_
      exact zu)
   ·exact h.elim
set_option maxHeartbeats 4000000 in
theorem z57:zp prog 39 zef:=by
  refine zn x7 (zd z3a zl) rfl func39 rfl call39 (D:=ydl) ?_ ?_
  ·intro args hp K h
   unfold zef at h
   split at h
   ·exact Nat.le_of_ble_eq_true rfl
   ·exact h.elim
  ·intro args hp K h
   unfold zef at h
   split at h
   ·obtain ⟨t0,t1,t2,t3,t4,p,W,R,f,n,b,hh,l,ehp,h9⟩:=zdu h
    clear h
    subst ehp
    have h:=h9
    clear h9
    rcases W with _|⟨aw,ak,ai,am⟩<;>rcases R with _|⟨bw,bk,bi,bm⟩
    all_goals (
      dsimp only [zaq]
      refine za ?_
      refine y0 h ?_
      exact zu)
   ·exact h.elim
def zp6:Spec:=fun args hp K=>match args with
  | [.ptr 0 0 0 [],.str s]=>stM hp fun p W R f n b h l=>Pre (ym n n n l b h∧s.length≤4611686018427387904) (zag fun l':List UInt8=>(l'.length=n∧zk l' b.toNat (h+min (s.length:Int) (n-h)).toNat=zk l b.toNat h.toNat++s.take (min (s.length:Int) (n-h)).toNat)→
      K (.int (min (s.length:Int) (n-h))) (stH p W R f n b (h+min (s.length:Int) (n-h)) l'))
  |_=>False
set_option maxHeartbeats 4000000 in
theorem zwj:zp prog 33 zp6:=by
  refine zn x7 (zd z7i zl) rfl func33 rfl call33 (D:=yb0) ?_ ?_
  ·intro args hp K h
   unfold zp6 at h
   split at h
   ·exact Nat.le_of_ble_eq_true rfl
   ·exact h.elim
  ·intro args hp K h
   unfold zp6 at h
   split at h
   ·rename_i s
    obtain ⟨t0,t1,t2,t3,t4,p,W,R,f,n,b,hh,l,ehp,h9⟩:=zdu h
    clear h
    subst ehp
    have h:=h9
    clear h9
    obtain ⟨h0,h⟩:=zm h
    have h:=xp h
    rcases W with _|⟨aw,ak,ai,am⟩<;>rcases R with _|⟨bw,bk,bi,bm⟩
    all_goals (
      dsimp only [zaq]
      refine za ?_
      refine yh fun l' hl'=>?_
      refine za ?_
      refine y0 (h l' hl') ?_
      exact zu)
   ·exact h.elim
def zys:Spec:=fun args hp K=>match args with
  | [.ptr 0 0 0 [],.int z]=>stM hp fun p W R f n b h l=>Pre (0≤z∧z≤16384∧0≤p∧p≤16384) (K (.int (inL p z)) (stH p W R f n b h l))
  |_=>False
set_option maxHeartbeats 4000000 in
theorem z64:zp prog 65 zys:=by
  refine zn x7 zl rfl func65 rfl call65 (D:=yag) ?_ ?_
  ·intro args hp K h
   unfold zys at h
   split at h
   ·exact Nat.le_of_ble_eq_true rfl
   ·exact h.elim
  ·intro args hp K h
   unfold zys at h
   split at h
   ·rename_i z
    obtain ⟨t0,t1,t2,t3,t4,p,W,R,f,n,b,hh,l,ehp,h9⟩:=zdu h
    clear h
    subst ehp
    have h:=h9
    clear h9
    obtain ⟨⟨hn0,hn1,hp0,hp1⟩,h⟩:=zm h
    by_cases h0:0<p
    ·have hq:(z+1+p-1).tdiv p=(z+1+p-1)/ p:=Int.tdiv_eq_ediv_of_nonneg (by omega)
     have hm1:=Int.ediv_mul_le (z+1+p-1) (show p≠0 by omega)
     have hm0:0≤(z+1+p-1)/ p:=Int.ediv_nonneg (by omega) (by omega)
     have hm2:0≤(z+1+p-1)/ p*p:=Int.mul_nonneg hm0 hp0
     have hm3:(z+1+p-1)/ p≤z+1+p-1:=Int.ediv_le_self _ (by omega)
     have hpd:p≠0∧yn ((z+1+p-1).tdiv p):=⟨by omega,by rw [hq];unfold yn;omega⟩
     have hpm:yn ((z+1+p-1).tdiv p*p):=by rw [hq];unfold yn;omega
     have hG:inL p z=min ((z+1+p-1).tdiv p*p) 16385:=by unfold inL;rw [if_pos h0,hq]
     rw [hG] at h
     rcases W with _|⟨aw,ak,ai,am⟩<;>rcases R with _|⟨bw,bk,bi,bm⟩
     all_goals (
       dsimp only [zaq]
       refine za ?_
       refine y0 h ?_
       exact zu)
    ·have hG:inL p z=z+1:=by unfold inL;rw [if_neg h0]
     rw [hG] at h
     rcases W with _|⟨aw,ak,ai,am⟩<;>rcases R with _|⟨bw,bk,bi,bm⟩
     all_goals (
       dsimp only [zaq]
       refine za ?_
       refine y0 h ?_
       exact zu)
   ·exact h.elim
def yc7 (p:Int) (W R:Option Kq) (f:Int) (n:Nat) (b h:Int) (l:List UInt8) (x:Kq):List Blk:=match W,R with
  |none,none=> [.mk 97 [.int p,.nilptr,.ptr 3 0 0 [],.ptr 1 0 0 [],.int f],.mk 121 [.sl 2 0 0 [] n n,.int b,.int h],.mk 5 [.arr8 n l],kB x]
  |some k,none=> [.mk 97 [.int p,.ptr 1 0 0 [],.ptr 4 0 0 [],.ptr 2 0 0 [],.int f],kB k,.mk 121 [.sl 3 0 0 [] n n,.int b,.int h],.mk 5 [.arr8 n l],kB x]
  |none,some r=> [.mk 97 [.int p,.nilptr,.ptr 4 0 0 [],.ptr 2 0 0 [],.int f],kB r,.mk 121 [.sl 3 0 0 [] n n,.int b,.int h],.mk 5 [.arr8 n l],kB x]
  |some k,some r=> [.mk 97 [.int p,.ptr 1 0 0 [],.ptr 5 0 0 [],.ptr 3 0 0 [],.int f],kB k,kB r,.mk 121 [.sl 4 0 0 [] n n,.int b,.int h],.mk 5 [.arr8 n l],kB x]
def ybe (p:Int) (W R:Option Kq) (f:Int) (n:Nat) (b h:Int) (l:List UInt8) (x:Kq):List Blk:=match W,R with
  |none,none=> [.mk 97 [.int p,.ptr 3 0 0 [],.nilptr,.ptr 1 0 0 [],.int f],.mk 121 [.sl 2 0 0 [] n n,.int b,.int h],.mk 5 [.arr8 n l],kB x]
  |some k,none=> [.mk 97 [.int p,.ptr 4 0 0 [],.nilptr,.ptr 2 0 0 [],.int f],kB k,.mk 121 [.sl 3 0 0 [] n n,.int b,.int h],.mk 5 [.arr8 n l],kB x]
  |none,some r=> [.mk 97 [.int p,.ptr 4 0 0 [],.ptr 1 0 0 [],.ptr 2 0 0 [],.int f],kB r,.mk 121 [.sl 3 0 0 [] n n,.int b,.int h],.mk 5 [.arr8 n l],kB x]
  |some k,some r=> [.mk 97 [.int p,.ptr 5 0 0 [],.ptr 2 0 0 [],.ptr 3 0 0 [],.int f],kB k,kB r,.mk 121 [.sl 4 0 0 [] n n,.int b,.int h],.mk 5 [.arr8 n l],kB x]
def z0j:Spec:=fun args hp K=>match args,hp with
  | [.int e],[]=>zv (decide (e=0)) (K (.int 0) []) (K (.int 2300) [])
  |_,_=>False
theorem zt5:zp prog 58 z0j:=by
  refine zn x7 zl rfl func58 rfl call58 (D:=yc2) ?_ ?_
  ·intro args hp K h
   unfold z0j at h
   split at h
   ·exact Nat.le_of_ble_eq_true rfl
   ·exact h.elim
  ·intro args hp K h
   unfold z0j at h
   split at h
   ·rename_i e
    obtain ⟨ht,hf⟩:=zt h
    by_cases h0:e=0
    ·have h:=ht (decide_eq_true h0)
     refine za ?_
     exact zh [] h
    ·have h:=hf (decide_eq_false h0)
     refine za ?_
     exact zh [] h
   ·exact h.elim
def zjx:Spec:=fun args hp K=>match args with
  | [.ptr 0 0 0 [],.int w,.str s]=>stM hp fun p W R f n b h l=>Pre (s.length≤140737488351232) (zv (decide (su w)) (K (.int 0) (ybe p W R f n b h l ⟨w,kyF w s,ivF w s,0⟩)) (K (.int 2100) (stH p W R f n b h l)))
  |_=>False
set_option maxHeartbeats 4000000 in
theorem zti:zp prog 44 zjx:=by
  refine zn x7 (zd zgk zl) rfl func44 rfl call44 (D:=z8z) ?_ ?_
  ·intro args hp K h
   unfold zjx at h
   split at h
   ·exact Nat.le_of_ble_eq_true rfl
   ·exact h.elim
  ·intro args hp K h
   unfold zjx at h
   split at h
   ·rename_i w s
    obtain ⟨t0,t1,t2,t3,t4,p,W,R,f,n,b,hh,l,ehp,h9⟩:=zdu h
    clear h
    subst ehp
    have h:=h9
    clear h9
    obtain ⟨hs,h⟩:=zm h
    obtain ⟨ht,hf⟩:=zt h
    generalize e:decide (su w)=c at ht hf
    cases c
    ·have h:=hf rfl
     rcases W with _|⟨aw,ak,ai,am⟩<;>rcases R with _|⟨bw,bk,bi,bm⟩
     all_goals (
       dsimp only [zaq]
       refine za ?_
       refine y0 h ?_
       exact zu)
    ·have h:=ht rfl
     rcases W with _|⟨aw,ak,ai,am⟩<;>rcases R with _|⟨bw,bk,bi,bm⟩
     all_goals (
       dsimp only [zaq]
       refine za ?_
       refine y0 h ?_
       exact zu)
   ·exact h.elim
def zhz:Spec:=fun args hp K=>match args with
  | [.ptr 0 0 0 [],.int w,.str s]=>stM hp fun p W R f n b h l=>Pre (s.length≤140737488351232) (zv (decide (su w)) (K (.int 0) (ybe p W R f n b h l ⟨w,kyF w s,ivF w s,0⟩)) (K (.int 2300) (stH p W R f n b h l)))
  |_=>False
set_option maxHeartbeats 4000000 in
theorem zxl:zp prog 30 zhz:=by
  refine zn x7 (zd zti (zd zt5 zl)) rfl func30 rfl call30 (D:=yco) ?_ ?_
  ·intro args hp K h
   unfold zhz at h
   split at h
   ·exact Nat.le_of_ble_eq_true rfl
   ·exact h.elim
  ·intro args hp K h
   unfold zhz at h
   split at h
   ·rename_i w s
    obtain ⟨t0,t1,t2,t3,t4,p,W,R,f,n,b,hh,l,ehp,h9⟩:=zdu h
    clear h
    subst ehp
    have h:=h9
    clear h9
    obtain ⟨hs,h⟩:=zm h
    obtain ⟨ht,hf⟩:=zt h
    generalize e:decide (su w)=c at ht hf
    cases c
    ·have h:=hf rfl
     rcases W with _|⟨aw,ak,ai,am⟩<;>rcases R with _|⟨bw,bk,bi,bm⟩
     all_goals (
       dsimp only [zaq]
       refine za ?_
       refine y0 h ?_
       exact zu)
    ·have h:=ht rfl
     rcases W with _|⟨aw,ak,ai,am⟩<;>rcases R with _|⟨bw,bk,bi,bm⟩
     all_goals (
       dsimp only [zaq]
       refine za ?_
       refine y0 h ?_
       exact zu)
   ·exact h.elim
def zkn:Spec:=fun args hp K=>match args with
  | [.ptr 0 0 0 [],.int w,.str s]=>stM hp fun p W R f n b h l=>Pre (s.length≤140737488351232) (zv (decide (su w)) (K (.int 0) (yc7 p W R f n b h l ⟨w,kyF w s,ivF w s,0⟩)) (K (.int 2300) (stH p W R f n b h l)))
  |_=>False
set_option maxHeartbeats 4000000 in
theorem z28:zp prog 31 zkn:=by
  refine zn x7 (zd zgk (zd zt5 zl)) rfl func31 rfl call31 (D:=ycz) ?_ ?_
  ·intro args hp K h
   unfold zkn at h
   split at h
   ·exact Nat.le_of_ble_eq_true rfl
   ·exact h.elim
  ·intro args hp K h
   unfold zkn at h
   split at h
   ·rename_i w s
    obtain ⟨t0,t1,t2,t3,t4,p,W,R,f,n,b,hh,l,ehp,h9⟩:=zdu h
    clear h
    subst ehp
    have h:=h9
    clear h9
    obtain ⟨hs,h⟩:=zm h
    obtain ⟨ht,hf⟩:=zt h
    generalize e:decide (su w)=c at ht hf
    cases c
    ·have h:=hf rfl
     rcases W with _|⟨aw,ak,ai,am⟩<;>rcases R with _|⟨bw,bk,bi,bm⟩
     all_goals (
       dsimp only [zaq]
       refine za ?_
       refine y0 h ?_
       exact zu)
    ·have h:=ht rfl
     rcases W with _|⟨aw,ak,ai,am⟩<;>rcases R with _|⟨bw,bk,bi,bm⟩
     all_goals (
       dsimp only [zaq]
       refine za ?_
       refine y0 h ?_
       exact zu)
   ·exact h.elim
def zu1 (p z:Int):Prop:=(0≤p∧p≤16384)∧33290≤z∧z≤262144
instance (p z:Int):Decidable (zu1 p z):=by unfold zu1;exact inferInstance
def zvx:Spec:=fun args hp K=>match args,hp with
  | [.int p,.int z],[]=>zv (decide (zu1 p z)) (K (.tup [.ptr 0 0 0 [],.int 0]) (stH p none none (-1) z.toNat 0 0 (List.replicate z.toNat 0))) (K (.tup [.nilptr,.int 2300]) [])
  |_,_=>False
set_option maxHeartbeats 4000000 in
theorem z05:zp prog 29 zvx:=by
  refine zn x7 (zd zj5 (zd z4i zl)) rfl func29 rfl call29 (D:=ycb) ?_ ?_
  ·intro args hp K h
   unfold zvx at h
   split at h
   ·exact Nat.le_of_ble_eq_true rfl
   ·exact h.elim
  ·intro args hp K h
   unfold zvx at h
   split at h
   ·rename_i p z
    obtain ⟨ht,hf⟩:=zt h
    by_cases h1:0≤p∧p≤16384
    ·have d1:=decide_eq_true h1
     by_cases h2:z<33290
     ·have h:=hf (decide_eq_false (by unfold zu1;omega))
      repeat ((conv=>whnf);first|refine zo ?_|refine zf ?_|refine zg ?_|refine zb ?_|refine zr (by first|exact d1|(rw [d1];rfl)) ?_|refine zi (by first|exact d1|(rw [d1];rfl)) ?_|refine zj (by first|exact d1|(rw [d1];rfl)) ?_)
      conv=>whnf
      exact zh [] h
     ·by_cases h3:262144<z
      ·have h:=hf (decide_eq_false (by unfold zu1;omega))
       repeat ((conv=>whnf);first|refine zo ?_|refine zf ?_|refine zg ?_|refine zb ?_|refine zr (by first|exact d1|(rw [d1];rfl)) ?_|refine zi (by first|exact d1|(rw [d1];rfl)) ?_|refine zj (by first|exact d1|(rw [d1];rfl)) ?_)
       conv=>whnf
       exact zh [] h
      ·have h:=ht (decide_eq_true (by unfold zu1;omega))
       repeat ((conv=>whnf);first|refine zo ?_|refine zf ?_|refine zg ?_|refine zb ?_|refine zr (by first|exact d1|(rw [d1];rfl)) ?_|refine zi (by first|exact d1|(rw [d1];rfl)) ?_|refine zj (by first|exact d1|(rw [d1];rfl)) ?_)
       conv=>whnf
       refine yv [3,1,2] h ?_
       exact zu
    ·have d1:=decide_eq_false h1
     have h:=hf (decide_eq_false fun hh=>h1 hh.1)
     repeat ((conv=>whnf);first|refine zo ?_|refine zf ?_|refine zg ?_|refine zb ?_|refine zr (by first|exact d1|(rw [d1];rfl)) ?_|refine zi (by first|exact d1|(rw [d1];rfl)) ?_|refine zj (by first|exact d1|(rw [d1];rfl)) ?_)
     conv=>whnf
     exact zh [] h
   ·exact h.elim
end Go.Sym.Z
