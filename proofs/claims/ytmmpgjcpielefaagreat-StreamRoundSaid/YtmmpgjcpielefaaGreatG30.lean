/-
  Contracts of functions of the program, each said of symbolic values, and plain laws; no condition beyond each statement's own.
-/
import Derived.Test.YtmmpgjcpielefaaGreatG29
set_option linter.unusedSimpArgs false
set_option linter.unusedVariables false
namespace Go.Sym.Z
open Go Go.Proofs.Tryz Go.Sym.Lp Go.Sym.Gcm Go.Sym.Aes Go.Sym.Pol Go.Sym.Cha
set_option maxRecDepth 100000
attribute [local irreducible] za7 yr zgv ziu zgs xl zbe xo yw gst gtg gW gR gH two
def z8j:List (Nat×List PStep):= [(1,[⟨0,[]⟩,⟨1,[]⟩,⟨2,[]⟩,⟨3,[]⟩,⟨4,[0,1,2,3]⟩,⟨5,[0,1,2,3]⟩,⟨6,[0,1,2,3]⟩,⟨7,[0,1,2,3]⟩,⟨8,[0,1,2,3,4,5,6,7]⟩,⟨10,[0,1,2,3,4,5,6,7,8]⟩,⟨11,[0,1,2,3,4,5,6,7,8,10]⟩,⟨12,[0,1,2,3,4,5,6,7,8,10,11]⟩,⟨9,[0,1,2,3,4,5,6,7,10,11,12]⟩,⟨13,[]⟩,⟨14,[]⟩,⟨15,[]⟩,⟨16,[15]⟩,⟨17,[16]⟩,⟨18,[]⟩])]
def sbM (k:Nat) (sb:SV) (P:List (Nat×Nat)→Nat→Nat→Prop):Prop:=match sb with
  | .nilsl=>P [] 0 0
  | .sl j 0 0 ob nb cb=>match Nat.beq j k with|true=>P ob nb cb|false=>False
  |_=>False
theorem zn8 {k:Nat} {sb:SV} {P:List (Nat×Nat)→Nat→Nat→Prop} (h:sbM k sb P): ∃ob nb cb,(sb= .nilsl∧ob= []∧nb=0∧cb=0∨sb= .sl k 0 0 ob nb cb)∧P ob nb cb:=by
  unfold sbM at h
  split at h
  ·exact ⟨[],0,0,.inl ⟨rfl,rfl,rfl,rfl⟩,h⟩
  ·split at h
   ·rename_i e;exact ⟨_,_,_,.inr (by rw [Nat.eq_of_beq_eq_true e]),h⟩
   ·exact h.elim
  ·exact h.elim
theorem zv5 {l:List UInt8} {a na b nb:Nat} (ha:a+na≤l.length) (hb:b+nb≤l.length):(two l a na b nb).length=na+nb:=by
  unfold two;simp only [List.length_append,List.length_take,List.length_drop];omega
def zsr:Spec:=fun args hp K=>match args,hp with
  | [.agg [.sl 0 0 0 oa na ca,sb]],[.mk t [.arr8 m l]]=>sbM 0 sb fun ob nb _=>Pre (off oa+na≤l.length∧off ob+nb≤l.length∧0<na+nb∧na+nb≤100000)
      (x9 fun x:List UInt8=>K (.sl 1 0 0 [] (na+nb) (na+nb+x.length)) [.mk t [.arr8 m l],.mk 5 [.arr8 (na+nb+x.length) (two l (off oa) na (off ob) nb++x)]])
  |_,_=>False
theorem z3w:zp prog 89 zsr:=by
  refine zl zax zg rfl func89 rfl call89 (D:=z71) ?_ ?_
  ·intro args hp K h
   unfold zsr at h
   split at h
   ·exact Nat.le_of_ble_eq_true rfl
   ·exact h.elim
  ·intro args hp K h
   unfold zsr at h
   split at h
   ·rename_i oa na ca sb t m l
    obtain ⟨ob,nb,cb,hsb,h9⟩:=zn8 h
    clear h
    obtain ⟨⟨ha,hb,h0,h1⟩,h⟩:=zi h9
    clear h9
    have hla:(List.take na (List.drop (off oa) l)).length=na:=by rw [List.length_take,List.length_drop];omega
    have hlb:(List.take nb (List.drop (off ob) l)).length=nb:=by rw [List.length_take,List.length_drop];omega
    have h2:two l (off oa) na (off ob) nb=List.take na (List.drop (off oa) l)++List.take nb (List.drop (off ob) l):=by unfold two;rfl
    rw [h2] at h
    clear h2
    rcases hsb with ⟨e1,e2,e3,e4⟩|e1
    ·subst e1 e2 e3 e4
     refine za ?_
     refine yf fun t1=>?_
     refine za ?_
     refine zv ⟨by omega,by rw [List.length_append],by show _+0≤_;omega⟩ ?_
     refine za ?_
     refine yf fun t2=>?_
     have h:=xj h t2
     rw [List.take_zero,List.append_nil,Nat.add_zero] at h
     refine za ?_
     rw [List.take_left' rfl,hla,List.length_nil,Nat.add_zero,List.append_nil]
     conv=>whnf
     exact zm [0,3] h
    ·subst e1
     by_cases g1:na=0
     ·refine za ?_
      refine yf fun t1=>?_
      have h:=xj h t1
      have e0:List.take na (List.drop (off oa) l)= []:=List.length_eq_zero_iff.1 (by omega)
      rw [e0,List.nil_append,g1,Nat.zero_add] at h
      refine za ?_
      rw [hlb]
      conv=>whnf
      exact zm [0,2] h
     ·refine za ?_
      refine yf fun t1=>?_
      refine za ?_
      refine zv ⟨by omega,by rw [List.length_append],by omega⟩ ?_
      refine za ?_
      refine yf fun t2=>?_
      have h:=xj h t2
      refine za ?_
      rw [List.take_left' rfl,hla,hlb]
      conv=>whnf
      exact zm [0,3] h
   ·exact h.elim
def zli:Spec:=fun args hp K=>match args,hp with
  | [.agg [.sl 0 0 0 oa na ca,sb],.sl 1 0 0 [] N c],[.mk t [.arr8 m l],.mk t2 [.arr8 M s]]=>sbM 0 sb fun ob nb _=>Pre (N=na+nb∧off oa+na≤l.length∧off ob+nb≤l.length∧N≤s.length∧N≤c)
      (K (.tup []) [.mk t [.arr8 m (zbe l (off oa) na (off ob) nb s)],.mk t2 [.arr8 M s]])
  |_,_=>False
theorem zxk:zp prog 93 zli:=by
  refine zl zax zg rfl func93 rfl call93 (D:=z9s) ?_ ?_
  ·intro args hp K h
   unfold zli at h
   split at h
   ·exact Nat.le_of_ble_eq_true rfl
   ·exact h.elim
  ·intro args hp K h
   unfold zli at h
   split at h
   ·rename_i oa na ca sb N c t m l t2 M s
    obtain ⟨ob,nb,cb,hsb,h9⟩:=zn8 h
    clear h
    obtain ⟨⟨hN,ha,hb,hs,hc⟩,h2⟩:=zi h9
    clear h9
    subst hN
    have hl1:(List.take (na+nb) (List.drop (off []) s)).length=na+nb:=by rw [List.length_take,List.length_drop];show min _ (s.length-0)=_;omega
    have hmn:(((min (List.take (na+nb) (List.drop (off []) s)).length na:Nat):Int)).toNat=na:=by rw [hl1];omega
    have hsl:off (ya [] (slO c na) ty5.sz)+(na+nb-na)≤s.length:=by
      rw [zw]
      show 0+slO c na*1+_≤_
      by_cases e:c=na
      ·unfold slO;split<;>omega
      ·rw [yv e];omega
    have hA:(List.take (min (List.take (na+nb) (List.drop (off []) s)).length na) (List.take (na+nb) (List.drop (off []) s)))=s.take na:=by
      rw [hl1,Nat.min_eq_right (by omega)]
      show List.take na (List.take (na+nb) (List.drop 0 s))=_
      rw [List.drop_zero,List.take_take,Nat.min_eq_left (by omega)]
    have hB:List.take (min (List.take (na+nb-na) (List.drop (off (ya [] (slO c na) ty5.sz)) s)).length nb) (List.take (na+nb-na) (List.drop (off (ya [] (slO c na) ty5.sz)) s))=(s.drop na).take nb:=by
      have hbl:(List.take (na+nb-na) (List.drop (off (ya [] (slO c na) ty5.sz)) s)).length≤nb:=by rw [List.length_take];omega
      rw [List.take_of_length_le (by omega),show na+nb-na=nb by omega]
      by_cases e:nb=0
      ·rw [e];rfl
      ·rw [zw,yv (show c≠na by omega)]
       show List.take nb (List.drop (0+na*1) s)=_
       rw [Nat.zero_add,Nat.mul_one]
    have hBl:min (List.take (na+nb-na) (List.drop (off (ya [] (slO c na) ty5.sz)) s)).length nb≤nb:=Nat.min_le_right _ _
    have hsl2:(zt l (off oa) (List.take (min (List.take (na+nb) (List.drop (off []) s)).length na) (List.take (na+nb) (List.drop (off []) s)))).length=l.length:=by
      rw [hA]
      unfold zt
      simp only [List.length_append,List.length_take,List.length_drop]
      omega
    rcases hsb with ⟨e1,e2,e3,e4⟩|e1
    ·subst e1 e2 e3 e4
     refine za ?_
     rw [hmn]
     refine za ?_
     refine yu (hp':= [.mk t [.arr8 m (zbe l (off oa) na (off []) 0 s)],.mk t2 [.arr8 M s]]) [0,1] h2 ?_
     repeat ((conv=>whnf);refine zc ?_)
     conv=>whnf
     exact zu (congrArg (fun x=>SV.agg [SV.arr8 m x]) (by rw [hA];unfold zbe;rw [List.take_zero];show _=zt (zt _ _ _) 0 [];generalize zt l (off oa) (List.take na s)=y;simp [zt]))
    ·subst e1
     refine za ?_
     rw [hmn]
     refine za ?_
     refine yu (hp':= [.mk t [.arr8 m (zbe l (off oa) na (off ob) nb s)],.mk t2 [.arr8 M s]]) [0,1] h2 ?_
     repeat ((conv=>whnf);refine zc ?_)
     conv=>whnf
     exact zu (congrArg (fun x=>SV.agg [SV.arr8 m x]) (by rw [hA,hB];unfold zbe;rfl))
   ·exact h.elim
theorem yae {T x:List UInt8} {N:Nat} {z:Int} (hT:T.length=N) (h16:16≤N) (hz:z=(N:Int)-16) (st tg:List UInt8→List UInt8) (hs: ∀b,(st b).length=b.length):
    (T++x).length=N+x.length∧off (ya [] (slO (N+x.length) z.toNat) ty5.sz)+(N-z.toNat)≤(T++x).length∧z.toNat≤(T++x).length∧z.toNat≤N+x.length∧(0≤z∧ ¬z<0)∧
    (st (List.take z.toNat (T++x))++List.drop z.toNat (T++x))=(st (T.take (N-16))++T.drop (N-16))++x∧
    (st (List.take z.toNat (T++x))++List.drop z.toNat (T++x)).length=N+x.length∧
    decide (tg (List.take z.toNat (T++x))=List.take (N-z.toNat) (List.drop (off (ya [] (slO (N+x.length) z.toNat) ty5.sz)) (T++x)))=decide (tg (T.take (N-16))=T.drop (N-16)):=by
  have hl:(T++x).length=N+x.length:=by rw [List.length_append,hT]
  have hzn:z.toNat=N-16:=by omega
  have hof:off (ya [] (slO (N+x.length) z.toNat) ty5.sz)=N-16:=by
    rw [hzn,zw,yv (by omega)]
    show 0+(N-16)*1=_
    omega
  have h1:List.take z.toNat (T++x)=T.take (N-16):=by rw [hzn,List.take_append_of_le_length (by omega)]
  have h2:List.drop z.toNat (T++x)=T.drop (N-16)++x:=by rw [hzn,List.drop_append_of_le_length (by omega)]
  have h3:List.take (N-z.toNat) (List.drop (N-16) (T++x))=T.drop (N-16):=by
    rw [hzn,List.drop_append_of_le_length (by omega),List.take_left' (by rw [List.length_drop];omega)]
  refine ⟨hl,by rw [hof,hl];omega,by omega,by omega,by omega,by rw [h1,h2,List.append_assoc],?_,by rw [hof,h1,h3]⟩
  rw [h1,h2,List.length_append,List.length_append,hs,List.length_take,List.length_drop]
  omega
def zle:Spec:=fun args hp K=>match args,hp with
  | [.int w,.str key,.str nonce,.str aad,.sl 0 0 0 oa na ca,sb],[.mk t [.arr8 m l]]=>sbM 0 sb fun ob nb _=>Pre (off oa+na≤l.length∧off ob+nb≤l.length∧na+nb≤20000∧zgt w key.length∧nonce.length=12∧aad.length≤65536)
      (yg (decide (16≤na+nb∧xo w key nonce aad ((two l (off oa) na (off ob) nb).take (na+nb-16))=(two l (off oa) na (off ob) nb).drop (na+nb-16)))
          (K (.tup [.int (((na+nb:Nat):Int)-16),.int 0]) [.mk t [.arr8 m (zbe l (off oa) na (off ob) nb (yw w key nonce ((two l (off oa) na (off ob) nb).take (na+nb-16))++(two l (off oa) na (off ob) nb).drop (na+nb-16)))]])
          (K (.tup [.int 0,.int 801]) [.mk t [.arr8 m l]]))
  |_,_=>False
set_option maxHeartbeats 4000000 in
theorem zw8:zp prog 131 zle:=by
  refine zl zax (ze z18 (ze z3w (ze zj4 (ze zy3 (ze z17 (ze zxk zg)))))) rfl func131 rfl call131 (D:=z74) ?_ ?_
  ·intro args hp K h
   unfold zle at h
   split at h
   ·exact Nat.le_of_ble_eq_true rfl
   ·exact h.elim
  ·intro args hp K h
   unfold zle at h
   split at h
   ·rename_i w key nonce aad oa na ca sb t m l
    obtain ⟨ob,nb,cb,hsb,h9⟩:=zn8 h
    clear h
    obtain ⟨⟨ha,hb,hab,hk,h1,h2⟩,h8⟩:=zi h9
    clear h9
    obtain ⟨ht,hn⟩:=yc h8
    clear h8
    obtain ⟨z,hz⟩: ∃z,z=((na+nb:Nat):Int)-16:=⟨_,rfl⟩
    have hd:decide (zgt w key.length∧nonce.length=12∧aad.length≤65536∧z≤65536)=true:=decide_eq_true ⟨hk,h1,h2,by omega⟩
    unfold zgt at hk
    rw [←hz] at ht
    have hTl:=zv5 ha hb
    by_cases h16:16≤na+nb
    ·have hpj:off oa+na≤l.length∧off ob+nb≤l.length∧0<na+nb∧na+nb≤100000:=⟨ha,hb,by omega,by omega⟩
     by_cases h4:w=4867
     ·skip
      have hTag:xo w key nonce aad=yr key nonce aad:=by funext b;unfold xo;rw [if_pos h4]
      have hStr:yw w key nonce=xl key nonce (UInt32.ofInt 1):=by funext b;unfold yw;rw [if_pos h4];rfl
      have F:=fun x:List UInt8=>yae (x:=x) hTl h16 hz (xl key nonce (UInt32.ofInt 1)) (yr key nonce aad) (fun b=>zik _ _ _ b)
      rw [hTag,hStr] at ht
      rw [hTag] at hn
      have hpt: ∀x:List UInt8,key.length=32∧nonce.length=12∧aad.length≤65536∧z.toNat≤65536∧z.toNat≤(two l (off oa) na (off ob) nb++x).length∧z.toNat≤na+nb+x.length:=fun x=>by
        obtain ⟨f1,f2,f3,f4,f5,f6,f7,f8⟩:=F x
        exact ⟨by omega,h1,h2,by omega,f3,f4⟩
      have hpx: ∀x:List UInt8,key.length=32∧nonce.length=12∧z.toNat≤(two l (off oa) na (off ob) nb++x).length∧z.toNat≤na+nb+x.length∧z.toNat≤9223372036854775807:=fun x=>by
        obtain ⟨f1,f2,f3,f4,f5,f6,f7,f8⟩:=F x
        exact ⟨by omega,h1,f3,f4,by omega⟩
      have hps: ∀x:List UInt8,na+nb=na+nb∧off oa+na≤l.length∧off ob+nb≤l.length∧na+nb≤(xl key nonce (UInt32.ofInt 1) (List.take z.toNat (two l (off oa) na (off ob) nb++x))++List.drop z.toNat (two l (off oa) na (off ob) nb++x)).length∧na+nb≤na+nb+x.length:=fun x=>by
        obtain ⟨f1,f2,f3,f4,f5,f6,f7,f8⟩:=F x
        exact ⟨rfl,ha,hb,by rw [f7];omega,by omega⟩
      have hfin: ∀x:List UInt8,zbe l (off oa) na (off ob) nb (xl key nonce (UInt32.ofInt 1) (List.take z.toNat (two l (off oa) na (off ob) nb++x))++List.drop z.toNat (two l (off oa) na (off ob) nb++x))=zbe l (off oa) na (off ob) nb (xl key nonce (UInt32.ofInt 1) (List.take (na+nb-16) (two l (off oa) na (off ob) nb))++List.drop (na+nb-16) (two l (off oa) na (off ob) nb)):=fun x=>by
        obtain ⟨f1,f2,f3,f4,f5,f6,f7,f8⟩:=F x
        rw [f6]
        exact zr7 (by rw [List.length_append,zik,List.length_take,List.length_drop];omega)
      by_cases hq:yr key nonce aad (List.take (na+nb-16) (two l (off oa) na (off ob) nb))=List.drop (na+nb-16) (two l (off oa) na (off ob) nb)
      ·have h:=ht (decide_eq_true ⟨h16,hq⟩)
       have hdq:decide (yr key nonce aad (List.take (na+nb-16) (two l (off oa) na (off ob) nb))=List.drop (na+nb-16) (two l (off oa) na (off ob) nb))=true:=decide_eq_true hq
       rcases hsb with ⟨e1,e2,e3,e4⟩|e1
       case' inl=>
         subst e1 e2 e3 e4
         refine za ?_
         rw [show (na:Int)+0-16=z by omega]
       case' inr=>
         subst e1
         refine za ?_
         rw [show (na:Int)+(nb:Int)-16=z by omega]
       all_goals (
         repeat ((conv=>whnf);first|refine zy ?_|refine zk ?_|refine zj ?_|refine zc ?_|refine zv (by first|exact hd|(rw [hd];rfl)) ?_|refine zr (by first|exact hd|(rw [hd];rfl)) ?_|refine zq (by first|exact hd|(rw [hd];rfl)) ?_)
         conv=>whnf
         refine yf fun x=>?_
         obtain ⟨f1,f2,f3,f4,f5,f6,f7,f8⟩:=F x
         have hpt:=hpt x
         have hpx:=hpx x
         have hps:=hps x
         rw [hdq] at f8
         repeat ((conv=>whnf);first|refine zy ?_|refine zk ?_|refine zj ?_|refine zc ?_|refine zv (by first|exact f8|(rw [f8];rfl)) ?_|refine zr (by first|exact f8|(rw [f8];rfl)) ?_|refine zq (by first|exact f8|(rw [f8];rfl)) ?_)
         conv=>whnf
         refine yu (hp':= [.mk t [.arr8 m (zbe l (off oa) na _ _ _)]]) [0] h ?_
         repeat ((conv=>whnf);refine zc ?_)
         conv=>whnf
         exact zu (congrArg (fun y=>SV.agg [SV.arr8 m y]) (hfin x)))
      ·have h:=hn (decide_eq_false fun hh=>hq hh.2)
       have hdq:decide (yr key nonce aad (List.take (na+nb-16) (two l (off oa) na (off ob) nb))=List.drop (na+nb-16) (two l (off oa) na (off ob) nb))=false:=decide_eq_false hq
       rcases hsb with ⟨e1,e2,e3,e4⟩|e1
       case' inl=>
         subst e1 e2 e3 e4
         refine za ?_
         rw [show (na:Int)+0-16=z by omega]
       case' inr=>
         subst e1
         refine za ?_
         rw [show (na:Int)+(nb:Int)-16=z by omega]
       all_goals (
         repeat ((conv=>whnf);first|refine zy ?_|refine zk ?_|refine zj ?_|refine zc ?_|refine zv (by first|exact hd|(rw [hd];rfl)) ?_|refine zr (by first|exact hd|(rw [hd];rfl)) ?_|refine zq (by first|exact hd|(rw [hd];rfl)) ?_)
         conv=>whnf
         refine yf fun x=>?_
         obtain ⟨f1,f2,f3,f4,f5,f6,f7,f8⟩:=F x
         have hpt:=hpt x
         have hpx:=hpx x
         have hps:=hps x
         rw [hdq] at f8
         repeat ((conv=>whnf);first|refine zy ?_|refine zk ?_|refine zj ?_|refine zc ?_|refine zv (by first|exact f8|(rw [f8];rfl)) ?_|refine zr (by first|exact f8|(rw [f8];rfl)) ?_|refine zq (by first|exact f8|(rw [f8];rfl)) ?_)
         conv=>whnf
         exact zm [0] h)
     ·skip
      have hWl:=zt6 (key:=key) (by omega)
      have hR7:gR key=key.length/ 4+7:=by unfold gR;rfl
      have hTag:xo w key nonce aad=gtg (gW key) (gR key) ((gH (gW key) (gR key)).1,(gH (gW key) (gR key)).2) nonce aad:=by funext b;unfold xo;rw [if_neg h4];unfold ziu;rfl
      have hStr:yw w key nonce=gst (gW key) (gR key) nonce 2:=by funext b;unfold yw;rw [if_neg h4];unfold zgs;rfl
      have F:=fun x:List UInt8=>yae (x:=x) hTl h16 hz (gst (gW key) (gR key) nonce 2) (gtg (gW key) (gR key) ((gH (gW key) (gR key)).1,(gH (gW key) (gR key)).2) nonce aad) (fun b=>zhu _ _ _ _ b)
      rw [hTag,hStr] at ht
      rw [hTag] at hn
      have hpt: ∀x:List UInt8,box=box∧nonce.length=12∧1≤gR key∧gR key≤100∧16*gR key≤(gW key).length∧z.toNat≤(two l (off oa) na (off ob) nb++x).length∧z.toNat≤na+nb+x.length∧aad.length≤65536∧z.toNat≤70000:=fun x=>by
        obtain ⟨f1,f2,f3,f4,f5,f6,f7,f8⟩:=F x
        exact ⟨rfl,h1,by omega,by omega,by omega,f3,f4,h2,by omega⟩
      have hpx: ∀x:List UInt8,box=box∧nonce.length=12∧1≤gR key∧gR key≤100∧16*gR key≤(gW key).length∧z.toNat≤(two l (off oa) na (off ob) nb++x).length∧z.toNat≤na+nb+x.length∧z.toNat≤9223372036854775807:=fun x=>by
        obtain ⟨f1,f2,f3,f4,f5,f6,f7,f8⟩:=F x
        exact ⟨rfl,h1,by omega,by omega,by omega,f3,f4,by omega⟩
      have hps: ∀x:List UInt8,na+nb=na+nb∧off oa+na≤l.length∧off ob+nb≤l.length∧na+nb≤(gst (gW key) (gR key) nonce 2 (List.take z.toNat (two l (off oa) na (off ob) nb++x))++List.drop z.toNat (two l (off oa) na (off ob) nb++x)).length∧na+nb≤na+nb+x.length:=fun x=>by
        obtain ⟨f1,f2,f3,f4,f5,f6,f7,f8⟩:=F x
        exact ⟨rfl,ha,hb,by rw [f7];omega,by omega⟩
      have hfin: ∀x:List UInt8,zbe l (off oa) na (off ob) nb (gst (gW key) (gR key) nonce 2 (List.take z.toNat (two l (off oa) na (off ob) nb++x))++List.drop z.toNat (two l (off oa) na (off ob) nb++x))=zbe l (off oa) na (off ob) nb (gst (gW key) (gR key) nonce 2 (List.take (na+nb-16) (two l (off oa) na (off ob) nb))++List.drop (na+nb-16) (two l (off oa) na (off ob) nb)):=fun x=>by
        obtain ⟨f1,f2,f3,f4,f5,f6,f7,f8⟩:=F x
        rw [f6]
        exact zr7 (by rw [List.length_append,zhu,List.length_take,List.length_drop];omega)
      by_cases hq:gtg (gW key) (gR key) ((gH (gW key) (gR key)).1,(gH (gW key) (gR key)).2) nonce aad (List.take (na+nb-16) (two l (off oa) na (off ob) nb))=List.drop (na+nb-16) (two l (off oa) na (off ob) nb)
      ·have h:=ht (decide_eq_true ⟨h16,hq⟩)
       have hdq:decide (gtg (gW key) (gR key) ((gH (gW key) (gR key)).1,(gH (gW key) (gR key)).2) nonce aad (List.take (na+nb-16) (two l (off oa) na (off ob) nb))=List.drop (na+nb-16) (two l (off oa) na (off ob) nb))=true:=decide_eq_true hq
       rcases hsb with ⟨e1,e2,e3,e4⟩|e1
       case' inl=>
         subst e1 e2 e3 e4
         refine za ?_
         rw [show (na:Int)+0-16=z by omega]
       case' inr=>
         subst e1
         refine za ?_
         rw [show (na:Int)+(nb:Int)-16=z by omega]
       all_goals (
         repeat ((conv=>whnf);first|refine zy ?_|refine zk ?_|refine zj ?_|refine zc ?_|refine zv (by first|exact hd|(rw [hd];rfl)) ?_|refine zr (by first|exact hd|(rw [hd];rfl)) ?_|refine zq (by first|exact hd|(rw [hd];rfl)) ?_)
         conv=>whnf
         refine yf fun x=>?_
         obtain ⟨f1,f2,f3,f4,f5,f6,f7,f8⟩:=F x
         have hpt:=hpt x
         have hpx:=hpx x
         have hps:=hps x
         rw [hdq] at f8
         repeat ((conv=>whnf);first|refine zy ?_|refine zk ?_|refine zj ?_|refine zc ?_|refine zv (by first|exact f8|(rw [f8];rfl)) ?_|refine zr (by first|exact f8|(rw [f8];rfl)) ?_|refine zq (by first|exact f8|(rw [f8];rfl)) ?_)
         conv=>whnf
         refine yu (hp':= [.mk t [.arr8 m (zbe l (off oa) na _ _ _)]]) [0] h ?_
         repeat ((conv=>whnf);refine zc ?_)
         conv=>whnf
         exact zu (congrArg (fun y=>SV.agg [SV.arr8 m y]) (hfin x)))
      ·have h:=hn (decide_eq_false fun hh=>hq hh.2)
       have hdq:decide (gtg (gW key) (gR key) ((gH (gW key) (gR key)).1,(gH (gW key) (gR key)).2) nonce aad (List.take (na+nb-16) (two l (off oa) na (off ob) nb))=List.drop (na+nb-16) (two l (off oa) na (off ob) nb))=false:=decide_eq_false hq
       rcases hsb with ⟨e1,e2,e3,e4⟩|e1
       case' inl=>
         subst e1 e2 e3 e4
         refine za ?_
         rw [show (na:Int)+0-16=z by omega]
       case' inr=>
         subst e1
         refine za ?_
         rw [show (na:Int)+(nb:Int)-16=z by omega]
       all_goals (
         repeat ((conv=>whnf);first|refine zy ?_|refine zk ?_|refine zj ?_|refine zc ?_|refine zv (by first|exact hd|(rw [hd];rfl)) ?_|refine zr (by first|exact hd|(rw [hd];rfl)) ?_|refine zq (by first|exact hd|(rw [hd];rfl)) ?_)
         conv=>whnf
         refine yf fun x=>?_
         obtain ⟨f1,f2,f3,f4,f5,f6,f7,f8⟩:=F x
         have hpt:=hpt x
         have hpx:=hpx x
         have hps:=hps x
         rw [hdq] at f8
         repeat ((conv=>whnf);first|refine zy ?_|refine zk ?_|refine zj ?_|refine zc ?_|refine zv (by first|exact f8|(rw [f8];rfl)) ?_|refine zr (by first|exact f8|(rw [f8];rfl)) ?_|refine zq (by first|exact f8|(rw [f8];rfl)) ?_)
         conv=>whnf
         exact zm [0] h)
    ·have h:=hn (decide_eq_false fun hh=>h16 hh.1)
     rcases hsb with ⟨e1,e2,e3,e4⟩|e1
     case' inl=>
       subst e1 e2 e3 e4
       refine za ?_
       rw [show (na:Int)+0-16=z by omega]
     case' inr=>
       subst e1
       refine za ?_
       rw [show (na:Int)+(nb:Int)-16=z by omega]
     all_goals (
       repeat ((conv=>whnf);first|refine zy ?_|refine zk ?_|refine zj ?_|refine zc ?_|refine zv (by first|exact hd|(rw [hd];rfl)) ?_|refine zr (by first|exact hd|(rw [hd];rfl)) ?_|refine zq (by first|exact hd|(rw [hd];rfl)) ?_)
       conv=>whnf
       exact zm [0] h)
   ·exact h.elim
attribute [local irreducible] kyF ivF ncF
def zlx:Spec:=fun args hp K=>match args,hp with
  | [.ptr 0 0 0 [],.str hd,.sl 1 0 0 oa na ca,sb],[.mk t [.int w,.str key,.str iv,.int q],.mk u [.arr8 m l]]=>sbM 1 sb fun ob nb _=>Pre (zrs w key iv q∧hd.length≤100∧na+nb≤20000∧off oa+na≤l.length∧off ob+nb≤l.length)
      (yg (decide (16≤na+nb∧xo w key (ncF iv q) hd ((two l (off oa) na (off ob) nb).take (na+nb-16))=(two l (off oa) na (off ob) nb).drop (na+nb-16)))
          (K (.tup [.int (((na+nb:Nat):Int)-16),.bool true]) [.mk t [.int w,.str key,.str iv,.int (q+1)],.mk u [.arr8 m (zbe l (off oa) na (off ob) nb (yw w key (ncF iv q) ((two l (off oa) na (off ob) nb).take (na+nb-16))++(two l (off oa) na (off ob) nb).drop (na+nb-16)))]])
          (K (.tup [.int 0,.bool false]) [.mk t [.int w,.str key,.str iv,.int q],.mk u [.arr8 m l]]))
  |_,_=>False
theorem zw1:zp prog 111 zlx:=by
  refine zl zba (ze zvu (ze zw8 zg)) rfl func111 rfl call111 (D:=z8j) ?_ ?_
  ·intro args hp K h
   unfold zlx at h
   split at h
   ·exact Nat.le_of_ble_eq_true rfl
   ·exact h.elim
  ·intro args hp K h
   unfold zlx at h
   split at h
   ·rename_i h' oa na ca sb t w key iv q u m l
    obtain ⟨ob,nb,cb,hsb,h9⟩:=zn8 h
    clear h
    obtain ⟨⟨hok,hh,hs,ha,hb⟩,h8⟩:=zi h9
    clear h9
    obtain ⟨ht,hf⟩:=yc h8
    clear h8
    have hky:=zq7 hok
    obtain ⟨hw,hkl,hiv,hm0,hm1⟩:=hok
    have hnl:=zus iv q
    have hp:off oa+na≤l.length∧off ob+nb≤l.length∧na+nb≤20000∧zgt w key.length∧(ncF iv q).length=12∧h'.length≤65536:=⟨ha,hb,hs,hky,by rw [hnl,hiv],by omega⟩
    generalize e:decide (16≤na+nb∧xo w key (ncF iv q) h' ((two l (off oa) na (off ob) nb).take (na+nb-16))=(two l (off oa) na (off ob) nb).drop (na+nb-16))=c at ht hf
    cases c
    ·have h:=hf rfl
     rcases hsb with ⟨e1,e2,e3,e4⟩|e1
     case' inl=>subst e1 e2 e3 e4
     case' inr=>subst e1
     all_goals (
       repeat ((conv=>whnf);first|refine zy ?_|refine zk ?_|refine zj ?_|refine zc ?_|refine zv (by first|exact e) ?_|refine zr (by first|exact e) ?_|refine zq (by first|exact e) ?_)
       conv=>whnf
       exact zm [0,1] h)
    ·have h:=ht rfl
     rcases hsb with ⟨e1,e2,e3,e4⟩|e1
     case' inl=>subst e1 e2 e3 e4
     case' inr=>subst e1
     all_goals (
       repeat ((conv=>whnf);first|refine zy ?_|refine zk ?_|refine zj ?_|refine zc ?_|refine zv (by first|exact e) ?_|refine zr (by first|exact e) ?_|refine zq (by first|exact e) ?_)
       conv=>whnf
       exact zm [0,1] h)
   ·exact h.elim
end Go.Sym.Z

namespace Go.Sym.Z
open Go Go.Proofs.Tryz Go.Sym.Lp Go.Sym.Ring Go.Sym.Cha Go.Sym.Sha Go.Sym.Hk
set_option maxRecDepth 100000
attribute [local irreducible] zaf exF kyF ivF y0 xo yw inL ncF hdF
def yax:List (Nat×List PStep):= []
def yb6:List (Nat×List PStep):= []
def ybu:List (Nat×List PStep):= []
def ybo:List (Nat×List PStep):= []
def ybj:List (Nat×List PStep):= []
def ybk:List (Nat×List PStep):= []
def ybc:List (Nat×List PStep):= []
def ya7:List (Nat×TyI):= [(3,ty3),(4,ty4),(5,ty5),(9,ty9),(48,zc6),(51,zcx),(113,zad),(99,x4),(103,zcv),(68,zg4),(70,zhj),(104,zcz),(97,zia),(56,zis),(121,zcy),(93,zg2),(43,zhk)]
theorem x6: ∀t i,yz ya7 t=some i→yn prog t i:=(zb ty3_ok (zb zbu (zb zby (zb zbz (zb zaw (zb za2 (zb zaq (zb zbp (zb ze3 (zb ziz (zb zh7 (zb zf7 (zb zkl (zb zko (zb ze7 (zb zif (zb zip zae)))))))))))))))))
def yaq:List Blk→Nat→List Nat
  | [],_=> []
  |_ ::bs,i=>i ::yaq bs (i+1)
theorem yy {n0:Nat} {r r':SV} {hp hp':List Blk} {K:SV→List Blk→Prop} (hk:K r' hp') (h:zef n0 (yaq hp' 0) [(0,r)] hp [(0,r')] hp' True):zbn n0 r hp K:=yu _ hk h
def zav (t0 t1 t2 t3 t4:TypeId) (p:Int) (W R:Option Kq) (f:Int) (n c m:Nat) (b h:Int) (l:List UInt8):List Blk:=match W,R with
  |none,none=> [.mk t0 [.int p,.nilptr,.nilptr,.ptr 1 0 0 [],.int f],.mk t3 [.sl 2 0 0 [] n c,.int b,.int h],.mk t4 [.arr8 m l]]
  |some k,none=> [.mk t0 [.int p,.ptr 1 0 0 [],.nilptr,.ptr 2 0 0 [],.int f],.mk t1 [.int k.w,.str k.key,.str k.iv,.int k.m],.mk t3 [.sl 3 0 0 [] n c,.int b,.int h],.mk t4 [.arr8 m l]]
  |none,some r=> [.mk t0 [.int p,.nilptr,.ptr 1 0 0 [],.ptr 2 0 0 [],.int f],.mk t2 [.int r.w,.str r.key,.str r.iv,.int r.m],.mk t3 [.sl 3 0 0 [] n c,.int b,.int h],.mk t4 [.arr8 m l]]
  |some k,some r=> [.mk t0 [.int p,.ptr 1 0 0 [],.ptr 2 0 0 [],.ptr 3 0 0 [],.int f],.mk t1 [.int k.w,.str k.key,.str k.iv,.int k.m],.mk t2 [.int r.w,.str r.key,.str r.iv,.int r.m],.mk t3 [.sl 4 0 0 [] n c,.int b,.int h],.mk t4 [.arr8 m l]]
def stH (p:Int) (W R:Option Kq) (f:Int) (n:Nat) (b h:Int) (l:List UInt8):List Blk:=zav 97 103 103 121 5 p W R f n n n b h l
def stM (hp:List Blk) (P:Int→Option Kq→Option Kq→Int→Nat→Int→Int→List UInt8→Prop):Prop:=match hp with
  | [.mk _ [.int p,.nilptr,.nilptr,.ptr 1 0 0 [],.int f],.mk _ [.sl 2 0 0 [] n c,.int b,.int h],.mk _ [.arr8 m l]]=>Pre (n=c∧n=m) (P p none none f n b h l)
  | [.mk _ [.int p,.ptr 1 0 0 [],.nilptr,.ptr 2 0 0 [],.int f],.mk _ [.int aw,.str ak,.str ai,.int am],.mk _ [.sl 3 0 0 [] n c,.int b,.int h],.mk _ [.arr8 m l]]=>Pre (n=c∧n=m) (P p (some ⟨aw,ak,ai,am⟩) none f n b h l)
  | [.mk _ [.int p,.nilptr,.ptr 1 0 0 [],.ptr 2 0 0 [],.int f],.mk _ [.int bw,.str bk,.str bi,.int bm],.mk _ [.sl 3 0 0 [] n c,.int b,.int h],.mk _ [.arr8 m l]]=>Pre (n=c∧n=m) (P p none (some ⟨bw,bk,bi,bm⟩) f n b h l)
  | [.mk _ [.int p,.ptr 1 0 0 [],.ptr 2 0 0 [],.ptr 3 0 0 [],.int f],.mk _ [.int aw,.str ak,.str ai,.int am],.mk _ [.int bw,.str bk,.str bi,.int bm],.mk _ [.sl 4 0 0 [] n c,.int b,.int h],.mk _ [.arr8 m l]]=>Pre (n=c∧n=m) (P p (some ⟨aw,ak,ai,am⟩) (some ⟨bw,bk,bi,bm⟩) f n b h l)
  |_=>False
theorem zdx {hp:List Blk} {P:Int→Option Kq→Option Kq→Int→Nat→Int→Int→List UInt8→Prop} (hh:stM hp P):
    ∃t0 t1 t2 t3 t4 p W R f n b h l,hp=zav t0 t1 t2 t3 t4 p W R f n n n b h l∧P p W R f n b h l:=by
  unfold stM at hh
  split at hh
  ·rename_i t0 p f t3 n c b h t4 m l;obtain ⟨⟨e1,e2⟩,h8⟩:=zi hh;clear hh;subst e1 e2;exact ⟨t0,0,0,t3,t4,p,none,none,f,n,b,h,l,rfl,h8⟩
  ·rename_i t0 p f t1 aw ak ai am t3 n c b h t4 m l;obtain ⟨⟨e1,e2⟩,h8⟩:=zi hh;clear hh;subst e1 e2;exact ⟨t0,t1,0,t3,t4,p,some ⟨aw,ak,ai,am⟩,none,f,n,b,h,l,rfl,h8⟩
  ·rename_i t0 p f t1 aw ak ai am t3 n c b h t4 m l;obtain ⟨⟨e1,e2⟩,h8⟩:=zi hh;clear hh;subst e1 e2;exact ⟨t0,0,t1,t3,t4,p,none,some ⟨aw,ak,ai,am⟩,f,n,b,h,l,rfl,h8⟩
  ·rename_i t0 p f t1 aw ak ai am t2 bw bk bi bm t3 n c b h t4 m l;obtain ⟨⟨e1,e2⟩,h8⟩:=zi hh;clear hh;subst e1 e2;exact ⟨t0,t1,t2,t3,t4,p,some ⟨aw,ak,ai,am⟩,some ⟨bw,bk,bi,bm⟩,f,n,b,h,l,rfl,h8⟩
  ·exact hh.elim
def zpn:Spec:=fun args hp K=>match args with
  | [.ptr 0 0 0 []]=>stM hp fun p W R f n b h l=>K (.int h) (stH p W R f n b h l)
  |_=>False
theorem zwb:zp prog 34 zpn:=by
  refine zl x6 (ze zyz zg) rfl func34 rfl call34 (D:=ybk) ?_ ?_
  ·intro args hp K h
   unfold zpn at h
   split at h
   ·exact Nat.le_of_ble_eq_true rfl
   ·exact h.elim
  ·intro args hp K h
   unfold zpn at h
   split at h
   ·obtain ⟨t0,t1,t2,t3,t4,p,W,R,f,n,b,hh,l,ehp,h9⟩:=zdx h
    clear h
    subst ehp
    have h:=h9
    clear h9
    rcases W with _|⟨aw,ak,ai,am⟩<;>rcases R with _|⟨bw,bk,bi,bm⟩
    all_goals (
      dsimp only [zav]
      refine za ?_
      refine yy h ?_
      exact zo)
   ·exact h.elim
def z9i:Option Kq→Int
  |none=>0
  |some k=>k.m
def zeh:Spec:=fun args hp K=>match args with
  | [.ptr 0 0 0 []]=>stM hp fun p W R f n b h l=>K (.int (z9i W)) (stH p W R f n b h l)
  |_=>False
set_option maxHeartbeats 4000000 in
theorem zzl:zp prog 52 zeh:=by
  refine zl x6 zg rfl func52 rfl call52 (D:=ya8) ?_ ?_
  ·intro args hp K h
   unfold zeh at h
   split at h
   ·exact Nat.le_of_ble_eq_true rfl
   ·exact h.elim
  ·intro args hp K h
   unfold zeh at h
   split at h
   ·obtain ⟨t0,t1,t2,t3,t4,p,W,R,f,n,b,hh,l,ehp,h9⟩:=zdx h
    clear h
    subst ehp
    have h:=h9
    clear h9
    rcases W with _|⟨aw,ak,ai,am⟩<;>rcases R with _|⟨bw,bk,bi,bm⟩
    all_goals (
      dsimp only [zav]
      refine za ?_
      refine yy h ?_
      exact zo)
   ·exact h.elim
set_option maxHeartbeats 4000000 in
theorem z41:zp prog 39 zeh:=by
  refine zl x6 (ze zzl zg) rfl func39 rfl call39 (D:=ybc) ?_ ?_
  ·intro args hp K h
   unfold zeh at h
   split at h
   ·exact Nat.le_of_ble_eq_true rfl
   ·exact h.elim
  ·intro args hp K h
   unfold zeh at h
   split at h
   ·obtain ⟨t0,t1,t2,t3,t4,p,W,R,f,n,b,hh,l,ehp,h9⟩:=zdx h
    clear h
    subst ehp
    have h:=h9
    clear h9
    rcases W with _|⟨aw,ak,ai,am⟩<;>rcases R with _|⟨bw,bk,bi,bm⟩
    all_goals (
      dsimp only [zav]
      refine za ?_
      refine yy h ?_
      exact zo)
   ·exact h.elim
def zph:Spec:=fun args hp K=>match args with
  | [.ptr 0 0 0 [],.str s]=>stM hp fun p W R f n b h l=>Pre (yj n n n l b h∧s.length≤4611686018427387904) (x9 fun l':List UInt8=>(l'.length=n∧zf l' b.toNat (h+min (s.length:Int) (n-h)).toNat=zf l b.toNat h.toNat++s.take (min (s.length:Int) (n-h)).toNat)→
      K (.int (min (s.length:Int) (n-h))) (stH p W R f n b (h+min (s.length:Int) (n-h)) l'))
  |_=>False
set_option maxHeartbeats 4000000 in
theorem zv6:zp prog 33 zph:=by
  refine zl x6 (ze z6u zg) rfl func33 rfl call33 (D:=ybj) ?_ ?_
  ·intro args hp K h
   unfold zph at h
   split at h
   ·exact Nat.le_of_ble_eq_true rfl
   ·exact h.elim
  ·intro args hp K h
   unfold zph at h
   split at h
   ·rename_i s
    obtain ⟨t0,t1,t2,t3,t4,p,W,R,f,n,b,hh,l,ehp,h9⟩:=zdx h
    clear h
    subst ehp
    have h:=h9
    clear h9
    obtain ⟨h0,h⟩:=zi h
    have h:=xj h
    rcases W with _|⟨aw,ak,ai,am⟩<;>rcases R with _|⟨bw,bk,bi,bm⟩
    all_goals (
      dsimp only [zav]
      refine za ?_
      refine yf fun l' hl'=>?_
      refine za ?_
      refine yy (h l' hl') ?_
      exact zo)
   ·exact h.elim
def zzf:Spec:=fun args hp K=>match args with
  | [.ptr 0 0 0 [],.int z]=>stM hp fun p W R f n b h l=>Pre (0≤z∧z≤16384∧0≤p∧p≤16384) (K (.int (inL p z)) (stH p W R f n b h l))
  |_=>False
set_option maxHeartbeats 4000000 in
theorem z5v:zp prog 65 zzf:=by
  refine zl x6 zg rfl func65 rfl call65 (D:=ybi) ?_ ?_
  ·intro args hp K h
   unfold zzf at h
   split at h
   ·exact Nat.le_of_ble_eq_true rfl
   ·exact h.elim
  ·intro args hp K h
   unfold zzf at h
   split at h
   ·rename_i z
    obtain ⟨t0,t1,t2,t3,t4,p,W,R,f,n,b,hh,l,ehp,h9⟩:=zdx h
    clear h
    subst ehp
    have h:=h9
    clear h9
    obtain ⟨⟨hn0,hn1,hp0,hp1⟩,h⟩:=zi h
    by_cases h0:0<p
    ·have hq:(z+1+p-1).tdiv p=(z+1+p-1)/ p:=Int.tdiv_eq_ediv_of_nonneg (by omega)
     have hm1:=Int.ediv_mul_le (z+1+p-1) (show p≠0 by omega)
     have hm0:0≤(z+1+p-1)/ p:=Int.ediv_nonneg (by omega) (by omega)
     have hm2:0≤(z+1+p-1)/ p*p:=Int.mul_nonneg hm0 hp0
     have hm3:(z+1+p-1)/ p≤z+1+p-1:=Int.ediv_le_self _ (by omega)
     have hpd:p≠0∧yo ((z+1+p-1).tdiv p):=⟨by omega,by rw [hq];unfold yo;omega⟩
     have hpm:yo ((z+1+p-1).tdiv p*p):=by rw [hq];unfold yo;omega
     have hG:inL p z=min ((z+1+p-1).tdiv p*p) 16385:=by unfold inL;rw [if_pos h0,hq]
     rw [hG] at h
     rcases W with _|⟨aw,ak,ai,am⟩<;>rcases R with _|⟨bw,bk,bi,bm⟩
     all_goals (
       dsimp only [zav]
       refine za ?_
       refine yy h ?_
       exact zo)
    ·have hG:inL p z=z+1:=by unfold inL;rw [if_neg h0]
     rw [hG] at h
     rcases W with _|⟨aw,ak,ai,am⟩<;>rcases R with _|⟨bw,bk,bi,bm⟩
     all_goals (
       dsimp only [zav]
       refine za ?_
       refine yy h ?_
       exact zo)
   ·exact h.elim
def yb3 (p:Int) (W R:Option Kq) (f:Int) (n:Nat) (b h:Int) (l:List UInt8) (x:Kq):List Blk:=match W,R with
  |none,none=> [.mk 97 [.int p,.nilptr,.ptr 3 0 0 [],.ptr 1 0 0 [],.int f],.mk 121 [.sl 2 0 0 [] n n,.int b,.int h],.mk 5 [.arr8 n l],kB x]
  |some k,none=> [.mk 97 [.int p,.ptr 1 0 0 [],.ptr 4 0 0 [],.ptr 2 0 0 [],.int f],kB k,.mk 121 [.sl 3 0 0 [] n n,.int b,.int h],.mk 5 [.arr8 n l],kB x]
  |none,some r=> [.mk 97 [.int p,.nilptr,.ptr 4 0 0 [],.ptr 2 0 0 [],.int f],kB r,.mk 121 [.sl 3 0 0 [] n n,.int b,.int h],.mk 5 [.arr8 n l],kB x]
  |some k,some r=> [.mk 97 [.int p,.ptr 1 0 0 [],.ptr 5 0 0 [],.ptr 3 0 0 [],.int f],kB k,kB r,.mk 121 [.sl 4 0 0 [] n n,.int b,.int h],.mk 5 [.arr8 n l],kB x]
def z8r (p:Int) (W R:Option Kq) (f:Int) (n:Nat) (b h:Int) (l:List UInt8) (x:Kq):List Blk:=match W,R with
  |none,none=> [.mk 97 [.int p,.ptr 3 0 0 [],.nilptr,.ptr 1 0 0 [],.int f],.mk 121 [.sl 2 0 0 [] n n,.int b,.int h],.mk 5 [.arr8 n l],kB x]
  |some k,none=> [.mk 97 [.int p,.ptr 4 0 0 [],.nilptr,.ptr 2 0 0 [],.int f],kB k,.mk 121 [.sl 3 0 0 [] n n,.int b,.int h],.mk 5 [.arr8 n l],kB x]
  |none,some r=> [.mk 97 [.int p,.ptr 4 0 0 [],.ptr 1 0 0 [],.ptr 2 0 0 [],.int f],kB r,.mk 121 [.sl 3 0 0 [] n n,.int b,.int h],.mk 5 [.arr8 n l],kB x]
  |some k,some r=> [.mk 97 [.int p,.ptr 5 0 0 [],.ptr 2 0 0 [],.ptr 3 0 0 [],.int f],kB k,kB r,.mk 121 [.sl 4 0 0 [] n n,.int b,.int h],.mk 5 [.arr8 n l],kB x]
def zyw:Spec:=fun args hp K=>match args,hp with
  | [.int e],[]=>yg (decide (e=0)) (K (.int 0) []) (K (.int 2300) [])
  |_,_=>False
theorem zud:zp prog 58 zyw:=by
  refine zl x6 zg rfl func58 rfl call58 (D:=yb6) ?_ ?_
  ·intro args hp K h
   unfold zyw at h
   split at h
   ·exact Nat.le_of_ble_eq_true rfl
   ·exact h.elim
  ·intro args hp K h
   unfold zyw at h
   split at h
   ·rename_i e
    obtain ⟨ht,hf⟩:=yc h
    by_cases h0:e=0
    ·have h:=ht (decide_eq_true h0)
     refine za ?_
     exact zm [] h
    ·have h:=hf (decide_eq_false h0)
     refine za ?_
     exact zm [] h
   ·exact h.elim
def zjd:Spec:=fun args hp K=>match args with
  | [.ptr 0 0 0 [],.int w,.str s]=>stM hp fun p W R f n b h l=>Pre (s.length≤140737488351232) (yg (decide (su w)) (K (.int 0) (z8r p W R f n b h l ⟨w,kyF w s,ivF w s,0⟩)) (K (.int 2100) (stH p W R f n b h l)))
  |_=>False
set_option maxHeartbeats 4000000 in
theorem zuf:zp prog 44 zjd:=by
  refine zl x6 (ze znm zg) rfl func44 rfl call44 (D:=ybn) ?_ ?_
  ·intro args hp K h
   unfold zjd at h
   split at h
   ·exact Nat.le_of_ble_eq_true rfl
   ·exact h.elim
  ·intro args hp K h
   unfold zjd at h
   split at h
   ·rename_i w s
    obtain ⟨t0,t1,t2,t3,t4,p,W,R,f,n,b,hh,l,ehp,h9⟩:=zdx h
    clear h
    subst ehp
    have h:=h9
    clear h9
    obtain ⟨hs,h⟩:=zi h
    obtain ⟨ht,hf⟩:=yc h
    generalize e:decide (su w)=c at ht hf
    cases c
    ·have h:=hf rfl
     rcases W with _|⟨aw,ak,ai,am⟩<;>rcases R with _|⟨bw,bk,bi,bm⟩
     all_goals (
       dsimp only [zav]
       refine za ?_
       refine yy h ?_
       exact zo)
    ·have h:=ht rfl
     rcases W with _|⟨aw,ak,ai,am⟩<;>rcases R with _|⟨bw,bk,bi,bm⟩
     all_goals (
       dsimp only [zav]
       refine za ?_
       refine yy h ?_
       exact zo)
   ·exact h.elim
def zh8:Spec:=fun args hp K=>match args with
  | [.ptr 0 0 0 [],.int w,.str s]=>stM hp fun p W R f n b h l=>Pre (s.length≤140737488351232) (yg (decide (su w)) (K (.int 0) (z8r p W R f n b h l ⟨w,kyF w s,ivF w s,0⟩)) (K (.int 2300) (stH p W R f n b h l)))
  |_=>False
set_option maxHeartbeats 4000000 in
theorem zxs:zp prog 30 zh8:=by
  refine zl x6 (ze zuf (ze zud zg)) rfl func30 rfl call30 (D:=ybu) ?_ ?_
  ·intro args hp K h
   unfold zh8 at h
   split at h
   ·exact Nat.le_of_ble_eq_true rfl
   ·exact h.elim
  ·intro args hp K h
   unfold zh8 at h
   split at h
   ·rename_i w s
    obtain ⟨t0,t1,t2,t3,t4,p,W,R,f,n,b,hh,l,ehp,h9⟩:=zdx h
    clear h
    subst ehp
    have h:=h9
    clear h9
    obtain ⟨hs,h⟩:=zi h
    obtain ⟨ht,hf⟩:=yc h
    generalize e:decide (su w)=c at ht hf
    cases c
    ·have h:=hf rfl
     rcases W with _|⟨aw,ak,ai,am⟩<;>rcases R with _|⟨bw,bk,bi,bm⟩
     all_goals (
       dsimp only [zav]
       refine za ?_
       refine yy h ?_
       exact zo)
    ·have h:=ht rfl
     rcases W with _|⟨aw,ak,ai,am⟩<;>rcases R with _|⟨bw,bk,bi,bm⟩
     all_goals (
       dsimp only [zav]
       refine za ?_
       refine yy h ?_
       exact zo)
   ·exact h.elim
def zky:Spec:=fun args hp K=>match args with
  | [.ptr 0 0 0 [],.int w,.str s]=>stM hp fun p W R f n b h l=>Pre (s.length≤140737488351232) (yg (decide (su w)) (K (.int 0) (yb3 p W R f n b h l ⟨w,kyF w s,ivF w s,0⟩)) (K (.int 2300) (stH p W R f n b h l)))
  |_=>False
set_option maxHeartbeats 4000000 in
theorem zyn:zp prog 31 zky:=by
  refine zl x6 (ze znm (ze zud zg)) rfl func31 rfl call31 (D:=ybo) ?_ ?_
  ·intro args hp K h
   unfold zky at h
   split at h
   ·exact Nat.le_of_ble_eq_true rfl
   ·exact h.elim
  ·intro args hp K h
   unfold zky at h
   split at h
   ·rename_i w s
    obtain ⟨t0,t1,t2,t3,t4,p,W,R,f,n,b,hh,l,ehp,h9⟩:=zdx h
    clear h
    subst ehp
    have h:=h9
    clear h9
    obtain ⟨hs,h⟩:=zi h
    obtain ⟨ht,hf⟩:=yc h
    generalize e:decide (su w)=c at ht hf
    cases c
    ·have h:=hf rfl
     rcases W with _|⟨aw,ak,ai,am⟩<;>rcases R with _|⟨bw,bk,bi,bm⟩
     all_goals (
       dsimp only [zav]
       refine za ?_
       refine yy h ?_
       exact zo)
    ·have h:=ht rfl
     rcases W with _|⟨aw,ak,ai,am⟩<;>rcases R with _|⟨bw,bk,bi,bm⟩
     all_goals (
       dsimp only [zav]
       refine za ?_
       refine yy h ?_
       exact zo)
   ·exact h.elim
def zkc (p z:Int):Prop:=(0≤p∧p≤16384)∧33290≤z∧z≤262144
instance (p z:Int):Decidable (zkc p z):=by unfold zkc;exact inferInstance
def zux:Spec:=fun args hp K=>match args,hp with
  | [.int p,.int z],[]=>yg (decide (zkc p z)) (K (.tup [.ptr 0 0 0 [],.int 0]) (stH p none none (-1) z.toNat 0 0 (List.replicate z.toNat 0))) (K (.tup [.nilptr,.int 2300]) [])
  |_,_=>False
set_option maxHeartbeats 4000000 in
theorem z00:zp prog 29 zux:=by
  refine zl x6 (ze zr6 (ze z4c zg)) rfl func29 rfl call29 (D:=yax) ?_ ?_
  ·intro args hp K h
   unfold zux at h
   split at h
   ·exact Nat.le_of_ble_eq_true rfl
   ·exact h.elim
  ·intro args hp K h
   unfold zux at h
   split at h
   ·rename_i p z
    obtain ⟨ht,hf⟩:=yc h
    by_cases h1:0≤p∧p≤16384
    ·have d1:=decide_eq_true h1
     by_cases h2:z<33290
     ·have h:=hf (decide_eq_false (by unfold zkc;omega))
      repeat ((conv=>whnf);first|refine zy ?_|refine zk ?_|refine zj ?_|refine zc ?_|refine zv (by first|exact d1|(rw [d1];rfl)) ?_|refine zr (by first|exact d1|(rw [d1];rfl)) ?_|refine zq (by first|exact d1|(rw [d1];rfl)) ?_)
      conv=>whnf
      exact zm [] h
     ·by_cases h3:262144<z
      ·have h:=hf (decide_eq_false (by unfold zkc;omega))
       repeat ((conv=>whnf);first|refine zy ?_|refine zk ?_|refine zj ?_|refine zc ?_|refine zv (by first|exact d1|(rw [d1];rfl)) ?_|refine zr (by first|exact d1|(rw [d1];rfl)) ?_|refine zq (by first|exact d1|(rw [d1];rfl)) ?_)
       conv=>whnf
       exact zm [] h
      ·have h:=ht (decide_eq_true (by unfold zkc;omega))
       repeat ((conv=>whnf);first|refine zy ?_|refine zk ?_|refine zj ?_|refine zc ?_|refine zv (by first|exact d1|(rw [d1];rfl)) ?_|refine zr (by first|exact d1|(rw [d1];rfl)) ?_|refine zq (by first|exact d1|(rw [d1];rfl)) ?_)
       conv=>whnf
       refine yu [3,1,2] h ?_
       exact zo
    ·have d1:=decide_eq_false h1
     have h:=hf (decide_eq_false fun hh=>h1 hh.1)
     repeat ((conv=>whnf);first|refine zy ?_|refine zk ?_|refine zj ?_|refine zc ?_|refine zv (by first|exact d1|(rw [d1];rfl)) ?_|refine zr (by first|exact d1|(rw [d1];rfl)) ?_|refine zq (by first|exact d1|(rw [d1];rfl)) ?_)
     conv=>whnf
     exact zm [] h
   ·exact h.elim
end Go.Sym.Z
