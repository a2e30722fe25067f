/-
  Contracts of functions of the program, each said of symbolic values, and plain laws; no condition beyond each statement's own.
-/
import Derived.Test.YtmmpgjcpielefaaGreatGLStreamActs29
set_option linter.unusedSimpArgs false
set_option linter.unusedVariables false
namespace Go.Sym.Z
open Go Go.Proofs.Tryz Go.Sym.Lp Go.Sym.Gcm Go.Sym.Aes Go.Sym.Pol Go.Sym.Cha
set_option maxRecDepth 100000
attribute [local irreducible] zay yx zgf zew zft xt zb8 xq y3 gst gtg gW gR gH two
def yje:List (Nat×List PStep):= [(1,[⟨0,[]⟩,⟨1,[]⟩,⟨2,[]⟩,⟨3,[]⟩,⟨4,[0,1,2,3]⟩,⟨5,[0,1,2,3]⟩,⟨6,[0,1,2,3]⟩,⟨7,[0,1,2,3]⟩,⟨8,[0,1,2,3,4,5,6,7]⟩,⟨10,[0,1,2,3,4,5,6,7,8]⟩,⟨11,[0,1,2,3,4,5,6,7,8,10]⟩,⟨12,[0,1,2,3,4,5,6,7,8,10,11]⟩,⟨9,[0,1,2,3,4,5,6,7,10,11,12]⟩,⟨13,[]⟩,⟨14,[]⟩,⟨15,[]⟩,⟨16,[15]⟩,⟨17,[16]⟩,⟨18,[]⟩])]
def sbM (k:Nat) (sb:SV) (P:List (Nat×Nat)→Nat→Nat→Prop):Prop:=match sb with
  | .nilsl=>P [] 0 0
  | .sl j 0 0 ob nb cb=>match Nat.beq j k with|true=>P ob nb cb|false=>False
  |_=>False
theorem zq8 {k:Nat} {sb:SV} {P:List (Nat×Nat)→Nat→Nat→Prop} (h:sbM k sb P): ∃ob nb cb,(sb= .nilsl∧ob= []∧nb=0∧cb=0∨sb= .sl k 0 0 ob nb cb)∧P ob nb cb:=by
  unfold sbM at h
  split at h
  ·exact ⟨[],0,0,.inl ⟨rfl,rfl,rfl,rfl⟩,h⟩
  ·split at h
   ·rename_i e;exact ⟨_,_,_,.inr (by rw [Nat.eq_of_beq_eq_true e]),h⟩
   ·exact h.elim
  ·exact h.elim
theorem z0s {l:List UInt8} {a na b nb:Nat} (ha:a+na≤l.length) (hb:b+nb≤l.length):(two l a na b nb).length=na+nb:=by
  unfold two;simp only [List.length_append,List.length_take,List.length_drop];omega
def zyz:Spec:=fun args hp K=>match args,hp with
  | [.agg [.sl 0 0 0 oa na ca,sb]],[.mk t [.arr8 m l]]=>sbM 0 sb fun ob nb _=>Pre (off oa+na≤l.length∧off ob+nb≤l.length∧0<na+nb∧na+nb≤100000)
      (zaz fun x:List UInt8=>K (.sl 1 0 0 [] (na+nb) (na+nb+x.length)) [.mk t [.arr8 m l],.mk 5 [.arr8 (na+nb+x.length) (two l (off oa) na (off ob) nb++x)]])
  |_,_=>False
theorem yah:zp prog 89 zyz:=by
  refine zm zbo zi rfl func89 rfl call89 (D:=ygx) ?_ ?_
  ·intro args hp K h
   unfold zyz at h
   split at h
   ·exact Nat.le_of_ble_eq_true rfl
   ·exact h.elim
  ·intro args hp K h
   unfold zyz at h
   split at h
   ·rename_i oa na ca sb t m l
    obtain ⟨ob,nb,cb,hsb,h9⟩:=zq8 h
    clear h
    obtain ⟨⟨ha,hb,h0,h1⟩,h⟩:=zq h9
    clear h9
    have hla:(List.take na (List.drop (off oa) l)).length=na:=by rw [List.length_take,List.length_drop];omega
    have hlb:(List.take nb (List.drop (off ob) l)).length=nb:=by rw [List.length_take,List.length_drop];omega
    have h2:two l (off oa) na (off ob) nb=List.take na (List.drop (off oa) l)++List.take nb (List.drop (off ob) l):=by unfold two;rfl
    rw [h2] at h
    clear h2
    rcases hsb with ⟨e1,e2,e3,e4⟩|e1
    ·subst e1 e2 e3 e4
     refine za ?_
     refine yi fun t1=>?_
     refine za ?_
     refine zr ⟨by omega,by rw [List.length_append],by show _+0≤_;omega⟩ ?_
     refine za ?_
     refine yi fun t2=>?_
     have h:=x0 h t2
     rw [List.take_zero,List.append_nil,Nat.add_zero] at h
     refine za ?_
     rw [List.take_left' rfl,hla,List.length_nil,Nat.add_zero,List.append_nil]
     conv=>whnf
     exact zf [0,3] h
    ·subst e1
     by_cases g1:na=0
     ·refine za ?_
      refine yi fun t1=>?_
      have h:=x0 h t1
      have e0:List.take na (List.drop (off oa) l)= []:=List.length_eq_zero_iff.1 (by omega)
      rw [e0,List.nil_append,g1,Nat.zero_add] at h
      refine za ?_
      rw [hlb]
      conv=>whnf
      exact zf [0,2] h
     ·refine za ?_
      refine yi fun t1=>?_
      refine za ?_
      refine zr ⟨by omega,by rw [List.length_append],by omega⟩ ?_
      refine za ?_
      refine yi fun t2=>?_
      have h:=x0 h t2
      refine za ?_
      rw [List.take_left' rfl,hla,hlb]
      conv=>whnf
      exact zf [0,3] h
   ·exact h.elim
def zow:Spec:=fun args hp K=>match args,hp with
  | [.agg [.sl 0 0 0 oa na ca,sb],.sl 1 0 0 [] N c],[.mk t [.arr8 m l],.mk t2 [.arr8 M s]]=>sbM 0 sb fun ob nb _=>Pre (N=na+nb∧off oa+na≤l.length∧off ob+nb≤l.length∧N≤s.length∧N≤c)
      (K (.tup []) [.mk t [.arr8 m (zb8 l (off oa) na (off ob) nb s)],.mk t2 [.arr8 M s]])
  |_,_=>False
theorem z33:zp prog 93 zow:=by
  refine zm zbo zi rfl func93 rfl call93 (D:=yjf) ?_ ?_
  ·intro args hp K h
   unfold zow at h
   split at h
   ·exact Nat.le_of_ble_eq_true rfl
   ·exact h.elim
  ·intro args hp K h
   unfold zow at h
   split at h
   ·rename_i oa na ca sb N c t m l t2 M s
    obtain ⟨ob,nb,cb,hsb,h9⟩:=zq8 h
    clear h
    obtain ⟨⟨hN,ha,hb,hs,hc⟩,h2⟩:=zq h9
    clear h9
    subst hN
    have hl1:(List.take (na+nb) (List.drop (off []) s)).length=na+nb:=by rw [List.length_take,List.length_drop];show min _ (s.length-0)=_;omega
    have hmn:(((min (List.take (na+nb) (List.drop (off []) s)).length na:Nat):Int)).toNat=na:=by rw [hl1];omega
    have hsl:off (yb [] (slO c na) ty5.sz)+(na+nb-na)≤s.length:=by
      rw [zy]
      show 0+slO c na*1+_≤_
      by_cases e:c=na
      ·unfold slO;split<;>omega
      ·rw [y7 e];omega
    have hA:(List.take (min (List.take (na+nb) (List.drop (off []) s)).length na) (List.take (na+nb) (List.drop (off []) s)))=s.take na:=by
      rw [hl1,Nat.min_eq_right (by omega)]
      show List.take na (List.take (na+nb) (List.drop 0 s))=_
      rw [List.drop_zero,List.take_take,Nat.min_eq_left (by omega)]
    have hB:List.take (min (List.take (na+nb-na) (List.drop (off (yb [] (slO c na) ty5.sz)) s)).length nb) (List.take (na+nb-na) (List.drop (off (yb [] (slO c na) ty5.sz)) s))=(s.drop na).take nb:=by
      have hbl:(List.take (na+nb-na) (List.drop (off (yb [] (slO c na) ty5.sz)) s)).length≤nb:=by rw [List.length_take];omega
      rw [List.take_of_length_le (by omega),show na+nb-na=nb by omega]
      by_cases e:nb=0
      ·rw [e];rfl
      ·rw [zy,y7 (show c≠na by omega)]
       show List.take nb (List.drop (0+na*1) s)=_
       rw [Nat.zero_add,Nat.mul_one]
    have hBl:min (List.take (na+nb-na) (List.drop (off (yb [] (slO c na) ty5.sz)) s)).length nb≤nb:=Nat.min_le_right _ _
    have hsl2:(zx l (off oa) (List.take (min (List.take (na+nb) (List.drop (off []) s)).length na) (List.take (na+nb) (List.drop (off []) s)))).length=l.length:=by
      rw [hA]
      unfold zx
      simp only [List.length_append,List.length_take,List.length_drop]
      omega
    rcases hsb with ⟨e1,e2,e3,e4⟩|e1
    ·subst e1 e2 e3 e4
     refine za ?_
     rw [hmn]
     refine za ?_
     refine yu (hp':= [.mk t [.arr8 m (zb8 l (off oa) na (off []) 0 s)],.mk t2 [.arr8 M s]]) [0,1] h2 ?_
     repeat ((conv=>whnf);refine zb ?_)
     conv=>whnf
     exact zo (congrArg (fun x=>SV.agg [SV.arr8 m x]) (by rw [hA];unfold zb8;rw [List.take_zero];show _=zx (zx _ _ _) 0 [];generalize zx l (off oa) (List.take na s)=y;simp [zx]))
    ·subst e1
     refine za ?_
     rw [hmn]
     refine za ?_
     refine yu (hp':= [.mk t [.arr8 m (zb8 l (off oa) na (off ob) nb s)],.mk t2 [.arr8 M s]]) [0,1] h2 ?_
     repeat ((conv=>whnf);refine zb ?_)
     conv=>whnf
     exact zo (congrArg (fun x=>SV.agg [SV.arr8 m x]) (by rw [hA,hB];unfold zb8;rfl))
   ·exact h.elim
theorem yhp {T x:List UInt8} {N:Nat} {z:Int} (hT:T.length=N) (h16:16≤N) (hz:z=(N:Int)-16) (st tg:List UInt8→List UInt8) (hs: ∀b,(st b).length=b.length):
    (T++x).length=N+x.length∧off (yb [] (slO (N+x.length) z.toNat) ty5.sz)+(N-z.toNat)≤(T++x).length∧z.toNat≤(T++x).length∧z.toNat≤N+x.length∧(0≤z∧ ¬z<0)∧
    (st (List.take z.toNat (T++x))++List.drop z.toNat (T++x))=(st (T.take (N-16))++T.drop (N-16))++x∧
    (st (List.take z.toNat (T++x))++List.drop z.toNat (T++x)).length=N+x.length∧
    decide (tg (List.take z.toNat (T++x))=List.take (N-z.toNat) (List.drop (off (yb [] (slO (N+x.length) z.toNat) ty5.sz)) (T++x)))=decide (tg (T.take (N-16))=T.drop (N-16)):=by
  have hl:(T++x).length=N+x.length:=by rw [List.length_append,hT]
  have hzn:z.toNat=N-16:=by omega
  have hof:off (yb [] (slO (N+x.length) z.toNat) ty5.sz)=N-16:=by
    rw [hzn,zy,y7 (by omega)]
    show 0+(N-16)*1=_
    omega
  have h1:List.take z.toNat (T++x)=T.take (N-16):=by rw [hzn,List.take_append_of_le_length (by omega)]
  have h2:List.drop z.toNat (T++x)=T.drop (N-16)++x:=by rw [hzn,List.drop_append_of_le_length (by omega)]
  have h3:List.take (N-z.toNat) (List.drop (N-16) (T++x))=T.drop (N-16):=by
    rw [hzn,List.drop_append_of_le_length (by omega),List.take_left' (by rw [List.length_drop];omega)]
  refine ⟨hl,by rw [hof,hl];omega,by omega,by omega,by omega,by rw [h1,h2,List.append_assoc],?_,by rw [hof,h1,h3]⟩
  rw [h1,h2,List.length_append,List.length_append,hs,List.length_take,List.length_drop]
  omega
def zop:Spec:=fun args hp K=>match args,hp with
  | [.int w,.str key,.str nonce,.str aad,.sl 0 0 0 oa na ca,sb],[.mk t [.arr8 m l]]=>sbM 0 sb fun ob nb _=>Pre (off oa+na≤l.length∧off ob+nb≤l.length∧na+nb≤20000∧zdw w key.length∧nonce.length=12∧aad.length≤65536)
      (ye (decide (16≤na+nb∧xq w key nonce aad ((two l (off oa) na (off ob) nb).take (na+nb-16))=(two l (off oa) na (off ob) nb).drop (na+nb-16)))
          (K (.tup [.int (((na+nb:Nat):Int)-16),.int 0]) [.mk t [.arr8 m (zb8 l (off oa) na (off ob) nb (y3 w key nonce ((two l (off oa) na (off ob) nb).take (na+nb-16))++(two l (off oa) na (off ob) nb).drop (na+nb-16)))]])
          (K (.tup [.int 0,.int 801]) [.mk t [.arr8 m l]]))
  |_,_=>False
set_option maxHeartbeats 4000000 in
theorem z32:zp prog 131 zop:=by
  refine zm zbo (zd z41 (zd yah (zd zmb (zd z8e (zd z8q (zd z33 zi)))))) rfl func131 rfl call131 (D:=yji) ?_ ?_
  ·intro args hp K h
   unfold zop at h
   split at h
   ·exact Nat.le_of_ble_eq_true rfl
   ·exact h.elim
  ·intro args hp K h
   unfold zop at h
   split at h
   ·rename_i w key nonce aad oa na ca sb t m l
    obtain ⟨ob,nb,cb,hsb,h9⟩:=zq8 h
    clear h
    obtain ⟨⟨ha,hb,hab,hk,h1,h2⟩,h8⟩:=zq h9
    clear h9
    obtain ⟨ht,hn⟩:=z8 h8
    clear h8
    obtain ⟨z,hz⟩: ∃z,z=((na+nb:Nat):Int)-16:=⟨_,rfl⟩
    have hd:decide (zdw w key.length∧nonce.length=12∧aad.length≤65536∧z≤65536)=true:=decide_eq_true ⟨hk,h1,h2,by omega⟩
    unfold zdw at hk
    rw [←hz] at ht
    have hTl:=z0s ha hb
    by_cases h16:16≤na+nb
    ·have hpj:off oa+na≤l.length∧off ob+nb≤l.length∧0<na+nb∧na+nb≤100000:=⟨ha,hb,by omega,by omega⟩
     by_cases h4:w=4867
     ·skip
      have hTag:xq w key nonce aad=yx key nonce aad:=by funext b;unfold xq;rw [if_pos h4]
      have hStr:y3 w key nonce=xt key nonce (UInt32.ofInt 1):=by funext b;unfold y3;rw [if_pos h4];rfl
      have F:=fun x:List UInt8=>yhp (x:=x) hTl h16 hz (xt key nonce (UInt32.ofInt 1)) (yx key nonce aad) (fun b=>zjo _ _ _ b)
      rw [hTag,hStr] at ht
      rw [hTag] at hn
      have hpt: ∀x:List UInt8,key.length=32∧nonce.length=12∧aad.length≤65536∧z.toNat≤65536∧z.toNat≤(two l (off oa) na (off ob) nb++x).length∧z.toNat≤na+nb+x.length:=fun x=>by
        obtain ⟨f1,f2,f3,f4,f5,f6,f7,f8⟩:=F x
        exact ⟨by omega,h1,h2,by omega,f3,f4⟩
      have hpx: ∀x:List UInt8,key.length=32∧nonce.length=12∧z.toNat≤(two l (off oa) na (off ob) nb++x).length∧z.toNat≤na+nb+x.length∧z.toNat≤9223372036854775807:=fun x=>by
        obtain ⟨f1,f2,f3,f4,f5,f6,f7,f8⟩:=F x
        exact ⟨by omega,h1,f3,f4,by omega⟩
      have hps: ∀x:List UInt8,na+nb=na+nb∧off oa+na≤l.length∧off ob+nb≤l.length∧na+nb≤(xt key nonce (UInt32.ofInt 1) (List.take z.toNat (two l (off oa) na (off ob) nb++x))++List.drop z.toNat (two l (off oa) na (off ob) nb++x)).length∧na+nb≤na+nb+x.length:=fun x=>by
        obtain ⟨f1,f2,f3,f4,f5,f6,f7,f8⟩:=F x
        exact ⟨rfl,ha,hb,by rw [f7];omega,by omega⟩
      have hfin: ∀x:List UInt8,zb8 l (off oa) na (off ob) nb (xt key nonce (UInt32.ofInt 1) (List.take z.toNat (two l (off oa) na (off ob) nb++x))++List.drop z.toNat (two l (off oa) na (off ob) nb++x))=zb8 l (off oa) na (off ob) nb (xt key nonce (UInt32.ofInt 1) (List.take (na+nb-16) (two l (off oa) na (off ob) nb))++List.drop (na+nb-16) (two l (off oa) na (off ob) nb)):=fun x=>by
        obtain ⟨f1,f2,f3,f4,f5,f6,f7,f8⟩:=F x
        rw [f6]
        exact zwn (by rw [List.length_append,zjo,List.length_take,List.length_drop];omega)
      by_cases hq:yx key nonce aad (List.take (na+nb-16) (two l (off oa) na (off ob) nb))=List.drop (na+nb-16) (two l (off oa) na (off ob) nb)
      ·have h:=ht (decide_eq_true ⟨h16,hq⟩)
       have hdq:decide (yx key nonce aad (List.take (na+nb-16) (two l (off oa) na (off ob) nb))=List.drop (na+nb-16) (two l (off oa) na (off ob) nb))=true:=decide_eq_true hq
       rcases hsb with ⟨e1,e2,e3,e4⟩|e1
       case' inl=>
         subst e1 e2 e3 e4
         refine za ?_
         rw [show (na:Int)+0-16=z by omega]
       case' inr=>
         subst e1
         refine za ?_
         rw [show (na:Int)+(nb:Int)-16=z by omega]
       all_goals (
         repeat ((conv=>whnf);first|refine zu ?_|refine zg ?_|refine zh ?_|refine zb ?_|refine zr (by first|exact hd|(rw [hd];rfl)) ?_|refine zj (by first|exact hd|(rw [hd];rfl)) ?_|refine zk (by first|exact hd|(rw [hd];rfl)) ?_)
         conv=>whnf
         refine yi fun x=>?_
         obtain ⟨f1,f2,f3,f4,f5,f6,f7,f8⟩:=F x
         have hpt:=hpt x
         have hpx:=hpx x
         have hps:=hps x
         rw [hdq] at f8
         repeat ((conv=>whnf);first|refine zu ?_|refine zg ?_|refine zh ?_|refine zb ?_|refine zr (by first|exact f8|(rw [f8];rfl)) ?_|refine zj (by first|exact f8|(rw [f8];rfl)) ?_|refine zk (by first|exact f8|(rw [f8];rfl)) ?_)
         conv=>whnf
         refine yu (hp':= [.mk t [.arr8 m (zb8 l (off oa) na _ _ _)]]) [0] h ?_
         repeat ((conv=>whnf);refine zb ?_)
         conv=>whnf
         exact zo (congrArg (fun y=>SV.agg [SV.arr8 m y]) (hfin x)))
      ·have h:=hn (decide_eq_false fun hh=>hq hh.2)
       have hdq:decide (yx key nonce aad (List.take (na+nb-16) (two l (off oa) na (off ob) nb))=List.drop (na+nb-16) (two l (off oa) na (off ob) nb))=false:=decide_eq_false hq
       rcases hsb with ⟨e1,e2,e3,e4⟩|e1
       case' inl=>
         subst e1 e2 e3 e4
         refine za ?_
         rw [show (na:Int)+0-16=z by omega]
       case' inr=>
         subst e1
         refine za ?_
         rw [show (na:Int)+(nb:Int)-16=z by omega]
       all_goals (
         repeat ((conv=>whnf);first|refine zu ?_|refine zg ?_|refine zh ?_|refine zb ?_|refine zr (by first|exact hd|(rw [hd];rfl)) ?_|refine zj (by first|exact hd|(rw [hd];rfl)) ?_|refine zk (by first|exact hd|(rw [hd];rfl)) ?_)
         conv=>whnf
         refine yi fun x=>?_
         obtain ⟨f1,f2,f3,f4,f5,f6,f7,f8⟩:=F x
         have hpt:=hpt x
         have hpx:=hpx x
         have hps:=hps x
         rw [hdq] at f8
         repeat ((conv=>whnf);first|refine zu ?_|refine zg ?_|refine zh ?_|refine zb ?_|refine zr (by first|exact f8|(rw [f8];rfl)) ?_|refine zj (by first|exact f8|(rw [f8];rfl)) ?_|refine zk (by first|exact f8|(rw [f8];rfl)) ?_)
         conv=>whnf
         exact zf [0] h)
     ·skip
      have hWl:=zpg (key:=key) (by omega)
      have hR7:gR key=key.length/ 4+7:=by unfold gR;rfl
      have hTag:xq w key nonce aad=gtg (gW key) (gR key) ((gH (gW key) (gR key)).1,(gH (gW key) (gR key)).2) nonce aad:=by funext b;unfold xq;rw [if_neg h4];unfold zew;rfl
      have hStr:y3 w key nonce=gst (gW key) (gR key) nonce 2:=by funext b;unfold y3;rw [if_neg h4];unfold zft;rfl
      have F:=fun x:List UInt8=>yhp (x:=x) hTl h16 hz (gst (gW key) (gR key) nonce 2) (gtg (gW key) (gR key) ((gH (gW key) (gR key)).1,(gH (gW key) (gR key)).2) nonce aad) (fun b=>zhu _ _ _ _ b)
      rw [hTag,hStr] at ht
      rw [hTag] at hn
      have hpt: ∀x:List UInt8,box=box∧nonce.length=12∧1≤gR key∧gR key≤100∧16*gR key≤(gW key).length∧z.toNat≤(two l (off oa) na (off ob) nb++x).length∧z.toNat≤na+nb+x.length∧aad.length≤65536∧z.toNat≤70000:=fun x=>by
        obtain ⟨f1,f2,f3,f4,f5,f6,f7,f8⟩:=F x
        exact ⟨rfl,h1,by omega,by omega,by omega,f3,f4,h2,by omega⟩
      have hpx: ∀x:List UInt8,box=box∧nonce.length=12∧1≤gR key∧gR key≤100∧16*gR key≤(gW key).length∧z.toNat≤(two l (off oa) na (off ob) nb++x).length∧z.toNat≤na+nb+x.length∧z.toNat≤9223372036854775807:=fun x=>by
        obtain ⟨f1,f2,f3,f4,f5,f6,f7,f8⟩:=F x
        exact ⟨rfl,h1,by omega,by omega,by omega,f3,f4,by omega⟩
      have hps: ∀x:List UInt8,na+nb=na+nb∧off oa+na≤l.length∧off ob+nb≤l.length∧na+nb≤(gst (gW key) (gR key) nonce 2 (List.take z.toNat (two l (off oa) na (off ob) nb++x))++List.drop z.toNat (two l (off oa) na (off ob) nb++x)).length∧na+nb≤na+nb+x.length:=fun x=>by
        obtain ⟨f1,f2,f3,f4,f5,f6,f7,f8⟩:=F x
        exact ⟨rfl,ha,hb,by rw [f7];omega,by omega⟩
      have hfin: ∀x:List UInt8,zb8 l (off oa) na (off ob) nb (gst (gW key) (gR key) nonce 2 (List.take z.toNat (two l (off oa) na (off ob) nb++x))++List.drop z.toNat (two l (off oa) na (off ob) nb++x))=zb8 l (off oa) na (off ob) nb (gst (gW key) (gR key) nonce 2 (List.take (na+nb-16) (two l (off oa) na (off ob) nb))++List.drop (na+nb-16) (two l (off oa) na (off ob) nb)):=fun x=>by
        obtain ⟨f1,f2,f3,f4,f5,f6,f7,f8⟩:=F x
        rw [f6]
        exact zwn (by rw [List.length_append,zhu,List.length_take,List.length_drop];omega)
      by_cases hq:gtg (gW key) (gR key) ((gH (gW key) (gR key)).1,(gH (gW key) (gR key)).2) nonce aad (List.take (na+nb-16) (two l (off oa) na (off ob) nb))=List.drop (na+nb-16) (two l (off oa) na (off ob) nb)
      ·have h:=ht (decide_eq_true ⟨h16,hq⟩)
       have hdq:decide (gtg (gW key) (gR key) ((gH (gW key) (gR key)).1,(gH (gW key) (gR key)).2) nonce aad (List.take (na+nb-16) (two l (off oa) na (off ob) nb))=List.drop (na+nb-16) (two l (off oa) na (off ob) nb))=true:=decide_eq_true hq
       rcases hsb with ⟨e1,e2,e3,e4⟩|e1
       case' inl=>
         subst e1 e2 e3 e4
         refine za ?_
         rw [show (na:Int)+0-16=z by omega]
       case' inr=>
         subst e1
         refine za ?_
         rw [show (na:Int)+(nb:Int)-16=z by omega]
       all_goals (
         repeat ((conv=>whnf);first|refine zu ?_|refine zg ?_|refine zh ?_|refine zb ?_|refine zr (by first|exact hd|(rw [hd];rfl)) ?_|refine zj (by first|exact hd|(rw [hd];rfl)) ?_|refine zk (by first|exact hd|(rw [hd];rfl)) ?_)
         conv=>whnf
         refine yi fun x=>?_
         obtain ⟨f1,f2,f3,f4,f5,f6,f7,f8⟩:=F x
         have hpt:=hpt x
         have hpx:=hpx x
         have hps:=hps x
         rw [hdq] at f8
         repeat ((conv=>whnf);first|refine zu ?_|refine zg ?_|refine zh ?_|refine zb ?_|refine zr (by first|exact f8|(rw [f8];rfl)) ?_|refine zj (by first|exact f8|(rw [f8];rfl)) ?_|refine zk (by first|exact f8|(rw [f8];rfl)) ?_)
         conv=>whnf
         refine yu (hp':= [.mk t [.arr8 m (zb8 l (off oa) na _ _ _)]]) [0] h ?_
         repeat ((conv=>whnf);refine zb ?_)
         conv=>whnf
         exact zo (congrArg (fun y=>SV.agg [SV.arr8 m y]) (hfin x)))
      ·have h:=hn (decide_eq_false fun hh=>hq hh.2)
       have hdq:decide (gtg (gW key) (gR key) ((gH (gW key) (gR key)).1,(gH (gW key) (gR key)).2) nonce aad (List.take (na+nb-16) (two l (off oa) na (off ob) nb))=List.drop (na+nb-16) (two l (off oa) na (off ob) nb))=false:=decide_eq_false hq
       rcases hsb with ⟨e1,e2,e3,e4⟩|e1
       case' inl=>
         subst e1 e2 e3 e4
         refine za ?_
         rw [show (na:Int)+0-16=z by omega]
       case' inr=>
         subst e1
         refine za ?_
         rw [show (na:Int)+(nb:Int)-16=z by omega]
       all_goals (
         repeat ((conv=>whnf);first|refine zu ?_|refine zg ?_|refine zh ?_|refine zb ?_|refine zr (by first|exact hd|(rw [hd];rfl)) ?_|refine zj (by first|exact hd|(rw [hd];rfl)) ?_|refine zk (by first|exact hd|(rw [hd];rfl)) ?_)
         conv=>whnf
         refine yi fun x=>?_
         obtain ⟨f1,f2,f3,f4,f5,f6,f7,f8⟩:=F x
         have hpt:=hpt x
         have hpx:=hpx x
         have hps:=hps x
         rw [hdq] at f8
         repeat ((conv=>whnf);first|refine zu ?_|refine zg ?_|refine zh ?_|refine zb ?_|refine zr (by first|exact f8|(rw [f8];rfl)) ?_|refine zj (by first|exact f8|(rw [f8];rfl)) ?_|refine zk (by first|exact f8|(rw [f8];rfl)) ?_)
         conv=>whnf
         exact zf [0] h)
    ·have h:=hn (decide_eq_false fun hh=>h16 hh.1)
     rcases hsb with ⟨e1,e2,e3,e4⟩|e1
     case' inl=>
       subst e1 e2 e3 e4
       refine za ?_
       rw [show (na:Int)+0-16=z by omega]
     case' inr=>
       subst e1
       refine za ?_
       rw [show (na:Int)+(nb:Int)-16=z by omega]
     all_goals (
       repeat ((conv=>whnf);first|refine zu ?_|refine zg ?_|refine zh ?_|refine zb ?_|refine zr (by first|exact hd|(rw [hd];rfl)) ?_|refine zj (by first|exact hd|(rw [hd];rfl)) ?_|refine zk (by first|exact hd|(rw [hd];rfl)) ?_)
       conv=>whnf
       exact zf [0] h)
   ·exact h.elim
attribute [local irreducible] kyF ivF ncF
def zot:Spec:=fun args hp K=>match args,hp with
  | [.ptr 0 0 0 [],.str hd,.sl 1 0 0 oa na ca,sb],[.mk t [.int w,.str key,.str iv,.int q],.mk u [.arr8 m l]]=>sbM 1 sb fun ob nb _=>Pre (ze1 w key iv q∧hd.length≤100∧na+nb≤20000∧off oa+na≤l.length∧off ob+nb≤l.length)
      (ye (decide (16≤na+nb∧xq w key (ncF iv q) hd ((two l (off oa) na (off ob) nb).take (na+nb-16))=(two l (off oa) na (off ob) nb).drop (na+nb-16)))
          (K (.tup [.int (((na+nb:Nat):Int)-16),.bool true]) [.mk t [.int w,.str key,.str iv,.int (q+1)],.mk u [.arr8 m (zb8 l (off oa) na (off ob) nb (y3 w key (ncF iv q) ((two l (off oa) na (off ob) nb).take (na+nb-16))++(two l (off oa) na (off ob) nb).drop (na+nb-16)))]])
          (K (.tup [.int 0,.bool false]) [.mk t [.int w,.str key,.str iv,.int q],.mk u [.arr8 m l]]))
  |_,_=>False
theorem z2u:zp prog 111 zot:=by
  refine zm zb4 (zd z1k (zd z32 zi)) rfl func111 rfl call111 (D:=yje) ?_ ?_
  ·intro args hp K h
   unfold zot at h
   split at h
   ·exact Nat.le_of_ble_eq_true rfl
   ·exact h.elim
  ·intro args hp K h
   unfold zot at h
   split at h
   ·rename_i h' oa na ca sb t w key iv q u m l
    obtain ⟨ob,nb,cb,hsb,h9⟩:=zq8 h
    clear h
    obtain ⟨⟨hok,hh,hs,ha,hb⟩,h8⟩:=zq h9
    clear h9
    obtain ⟨ht,hf⟩:=z8 h8
    clear h8
    have hky:=zjh hok
    obtain ⟨hw,hkl,hiv,hm0,hm1⟩:=hok
    have hnl:=zms iv q
    have hp:off oa+na≤l.length∧off ob+nb≤l.length∧na+nb≤20000∧zdw w key.length∧(ncF iv q).length=12∧h'.length≤65536:=⟨ha,hb,hs,hky,by rw [hnl,hiv],by omega⟩
    generalize e:decide (16≤na+nb∧xq w key (ncF iv q) h' ((two l (off oa) na (off ob) nb).take (na+nb-16))=(two l (off oa) na (off ob) nb).drop (na+nb-16))=c at ht hf
    cases c
    ·have h:=hf rfl
     rcases hsb with ⟨e1,e2,e3,e4⟩|e1
     case' inl=>subst e1 e2 e3 e4
     case' inr=>subst e1
     all_goals (
       repeat ((conv=>whnf);first|refine zu ?_|refine zg ?_|refine zh ?_|refine zb ?_|refine zr (by first|exact e) ?_|refine zj (by first|exact e) ?_|refine zk (by first|exact e) ?_)
       conv=>whnf
       exact zf [0,1] h)
    ·have h:=ht rfl
     rcases hsb with ⟨e1,e2,e3,e4⟩|e1
     case' inl=>subst e1 e2 e3 e4
     case' inr=>subst e1
     all_goals (
       repeat ((conv=>whnf);first|refine zu ?_|refine zg ?_|refine zh ?_|refine zb ?_|refine zr (by first|exact e) ?_|refine zj (by first|exact e) ?_|refine zk (by first|exact e) ?_)
       conv=>whnf
       exact zf [0,1] h)
   ·exact h.elim
end Go.Sym.Z

namespace Go.Sym.Z
open Go Go.Proofs.Tryz Go.Sym.Lp Go.Sym.Ring Go.Sym.Cha Go.Sym.Sha Go.Sym.Hk
set_option maxRecDepth 100000
attribute [local irreducible] x3 exF kyF ivF y6 xq y3 inL ncF hdF
def ymw:List (Nat×List PStep):= []
def ylt:List (Nat×List PStep):= []
def ym3:List (Nat×List PStep):= []
def yk1:List (Nat×List PStep):= []
def yl2:List (Nat×List PStep):= []
def ykp:List (Nat×List PStep):= []
def ymp:List (Nat×List PStep):= []
def yks:List (Nat×TyI):= [(3,ty3),(4,ty4),(5,ty5),(9,ty9),(48,zd6),(51,zeb),(113,xw),(99,xj),(103,zgc),(68,zmk),(70,zmn),(104,zgh),(97,zqc),(56,zpa),(121,zf8),(93,zmm),(43,zlv)]
theorem zau: ∀t i,y8 yks t=some i→yt prog t i:=(zc zbg (zc zbj (zc zbc (zc zbf (zc zaq (zc zap (zc zai (zc za6 (zc ze7 (zc zhz (zc zhv (zc zfh (zc zj3 (zc zjx (zc ze3 (zc zhy (zc zf5 x1)))))))))))))))))
def yid:List Blk→Nat→List Nat
  | [],_=> []
  |_ ::bs,i=>i ::yid bs (i+1)
theorem yr {n0:Nat} {r r':SV} {hp hp':List Blk} {K:SV→List Blk→Prop} (hk:K r' hp') (h:zdp n0 (yid hp' 0) [(0,r)] hp [(0,r')] hp' True):zb7 n0 r hp K:=yu _ hk h
def xv (t0 t1 t2 t3 t4:TypeId) (p:Int) (W R:Option Kq) (f:Int) (n c m:Nat) (b h:Int) (l:List UInt8):List Blk:=match W,R with
  |none,none=> [.mk t0 [.int p,.nilptr,.nilptr,.ptr 1 0 0 [],.int f],.mk t3 [.sl 2 0 0 [] n c,.int b,.int h],.mk t4 [.arr8 m l]]
  |some k,none=> [.mk t0 [.int p,.ptr 1 0 0 [],.nilptr,.ptr 2 0 0 [],.int f],.mk t1 [.int k.w,.str k.key,.str k.iv,.int k.m],.mk t3 [.sl 3 0 0 [] n c,.int b,.int h],.mk t4 [.arr8 m l]]
  |none,some r=> [.mk t0 [.int p,.nilptr,.ptr 1 0 0 [],.ptr 2 0 0 [],.int f],.mk t2 [.int r.w,.str r.key,.str r.iv,.int r.m],.mk t3 [.sl 3 0 0 [] n c,.int b,.int h],.mk t4 [.arr8 m l]]
  |some k,some r=> [.mk t0 [.int p,.ptr 1 0 0 [],.ptr 2 0 0 [],.ptr 3 0 0 [],.int f],.mk t1 [.int k.w,.str k.key,.str k.iv,.int k.m],.mk t2 [.int r.w,.str r.key,.str r.iv,.int r.m],.mk t3 [.sl 4 0 0 [] n c,.int b,.int h],.mk t4 [.arr8 m l]]
def stH (p:Int) (W R:Option Kq) (f:Int) (n:Nat) (b h:Int) (l:List UInt8):List Blk:=xv 97 103 103 121 5 p W R f n n n b h l
def stM (hp:List Blk) (P:Int→Option Kq→Option Kq→Int→Nat→Int→Int→List UInt8→Prop):Prop:=match hp with
  | [.mk _ [.int p,.nilptr,.nilptr,.ptr 1 0 0 [],.int f],.mk _ [.sl 2 0 0 [] n c,.int b,.int h],.mk _ [.arr8 m l]]=>Pre (n=c∧n=m) (P p none none f n b h l)
  | [.mk _ [.int p,.ptr 1 0 0 [],.nilptr,.ptr 2 0 0 [],.int f],.mk _ [.int aw,.str ak,.str ai,.int am],.mk _ [.sl 3 0 0 [] n c,.int b,.int h],.mk _ [.arr8 m l]]=>Pre (n=c∧n=m) (P p (some ⟨aw,ak,ai,am⟩) none f n b h l)
  | [.mk _ [.int p,.nilptr,.ptr 1 0 0 [],.ptr 2 0 0 [],.int f],.mk _ [.int bw,.str bk,.str bi,.int bm],.mk _ [.sl 3 0 0 [] n c,.int b,.int h],.mk _ [.arr8 m l]]=>Pre (n=c∧n=m) (P p none (some ⟨bw,bk,bi,bm⟩) f n b h l)
  | [.mk _ [.int p,.ptr 1 0 0 [],.ptr 2 0 0 [],.ptr 3 0 0 [],.int f],.mk _ [.int aw,.str ak,.str ai,.int am],.mk _ [.int bw,.str bk,.str bi,.int bm],.mk _ [.sl 4 0 0 [] n c,.int b,.int h],.mk _ [.arr8 m l]]=>Pre (n=c∧n=m) (P p (some ⟨aw,ak,ai,am⟩) (some ⟨bw,bk,bi,bm⟩) f n b h l)
  |_=>False
theorem zey {hp:List Blk} {P:Int→Option Kq→Option Kq→Int→Nat→Int→Int→List UInt8→Prop} (hh:stM hp P):
    ∃t0 t1 t2 t3 t4 p W R f n b h l,hp=xv t0 t1 t2 t3 t4 p W R f n n n b h l∧P p W R f n b h l:=by
  unfold stM at hh
  split at hh
  ·rename_i t0 p f t3 n c b h t4 m l;obtain ⟨⟨e1,e2⟩,h8⟩:=zq hh;clear hh;subst e1 e2;exact ⟨t0,0,0,t3,t4,p,none,none,f,n,b,h,l,rfl,h8⟩
  ·rename_i t0 p f t1 aw ak ai am t3 n c b h t4 m l;obtain ⟨⟨e1,e2⟩,h8⟩:=zq hh;clear hh;subst e1 e2;exact ⟨t0,t1,0,t3,t4,p,some ⟨aw,ak,ai,am⟩,none,f,n,b,h,l,rfl,h8⟩
  ·rename_i t0 p f t1 aw ak ai am t3 n c b h t4 m l;obtain ⟨⟨e1,e2⟩,h8⟩:=zq hh;clear hh;subst e1 e2;exact ⟨t0,0,t1,t3,t4,p,none,some ⟨aw,ak,ai,am⟩,f,n,b,h,l,rfl,h8⟩
  ·rename_i t0 p f t1 aw ak ai am t2 bw bk bi bm t3 n c b h t4 m l;obtain ⟨⟨e1,e2⟩,h8⟩:=zq hh;clear hh;subst e1 e2;exact ⟨t0,t1,t2,t3,t4,p,some ⟨aw,ak,ai,am⟩,some ⟨bw,bk,bi,bm⟩,f,n,b,h,l,rfl,h8⟩
  ·exact hh.elim
def zus:Spec:=fun args hp K=>match args with
  | [.ptr 0 0 0 []]=>stM hp fun p W R f n b h l=>K (.int h) (stH p W R f n b h l)
  |_=>False
theorem zz9:zp prog 34 zus:=by
  refine zm zau (zd z5i zi) rfl func34 rfl call34 (D:=ykp) ?_ ?_
  ·intro args hp K h
   unfold zus at h
   split at h
   ·exact Nat.le_of_ble_eq_true rfl
   ·exact h.elim
  ·intro args hp K h
   unfold zus at h
   split at h
   ·obtain ⟨t0,t1,t2,t3,t4,p,W,R,f,n,b,hh,l,ehp,h9⟩:=zey h
    clear h
    subst ehp
    have h:=h9
    clear h9
    rcases W with _|⟨aw,ak,ai,am⟩<;>rcases R with _|⟨bw,bk,bi,bm⟩
    all_goals (
      dsimp only [xv]
      refine za ?_
      refine yr h ?_
      exact zn)
   ·exact h.elim
def z7b:Option Kq→Int
  |none=>0
  |some k=>k.m
def zfx:Spec:=fun args hp K=>match args with
  | [.ptr 0 0 0 []]=>stM hp fun p W R f n b h l=>K (.int (z7b W)) (stH p W R f n b h l)
  |_=>False
set_option maxHeartbeats 4000000 in
theorem z4o:zp prog 52 zfx:=by
  refine zm zau zi rfl func52 rfl call52 (D:=ylm) ?_ ?_
  ·intro args hp K h
   unfold zfx at h
   split at h
   ·exact Nat.le_of_ble_eq_true rfl
   ·exact h.elim
  ·intro args hp K h
   unfold zfx at h
   split at h
   ·obtain ⟨t0,t1,t2,t3,t4,p,W,R,f,n,b,hh,l,ehp,h9⟩:=zey h
    clear h
    subst ehp
    have h:=h9
    clear h9
    rcases W with _|⟨aw,ak,ai,am⟩<;>rcases R with _|⟨bw,bk,bi,bm⟩
    all_goals (
      dsimp only [xv]
      refine za ?_
      refine yr h ?_
      exact zn)
   ·exact h.elim
set_option maxHeartbeats 4000000 in
theorem yb3:zp prog 39 zfx:=by
  refine zm zau (zd z4o zi) rfl func39 rfl call39 (D:=ymp) ?_ ?_
  ·intro args hp K h
   unfold zfx at h
   split at h
   ·exact Nat.le_of_ble_eq_true rfl
   ·exact h.elim
  ·intro args hp K h
   unfold zfx at h
   split at h
   ·obtain ⟨t0,t1,t2,t3,t4,p,W,R,f,n,b,hh,l,ehp,h9⟩:=zey h
    clear h
    subst ehp
    have h:=h9
    clear h9
    rcases W with _|⟨aw,ak,ai,am⟩<;>rcases R with _|⟨bw,bk,bi,bm⟩
    all_goals (
      dsimp only [xv]
      refine za ?_
      refine yr h ?_
      exact zn)
   ·exact h.elim
def ztf:Spec:=fun args hp K=>match args with
  | [.ptr 0 0 0 [],.str s]=>stM hp fun p W R f n b h l=>Pre (yj n n n l b h∧s.length≤4611686018427387904) (zaz fun l':List UInt8=>(l'.length=n∧zl l' b.toNat (h+min (s.length:Int) (n-h)).toNat=zl l b.toNat h.toNat++s.take (min (s.length:Int) (n-h)).toNat)→
      K (.int (min (s.length:Int) (n-h))) (stH p W R f n b (h+min (s.length:Int) (n-h)) l'))
  |_=>False
set_option maxHeartbeats 4000000 in
theorem z0x:zp prog 33 ztf:=by
  refine zm zau (zd yex zi) rfl func33 rfl call33 (D:=yl2) ?_ ?_
  ·intro args hp K h
   unfold ztf at h
   split at h
   ·exact Nat.le_of_ble_eq_true rfl
   ·exact h.elim
  ·intro args hp K h
   unfold ztf at h
   split at h
   ·rename_i s
    obtain ⟨t0,t1,t2,t3,t4,p,W,R,f,n,b,hh,l,ehp,h9⟩:=zey h
    clear h
    subst ehp
    have h:=h9
    clear h9
    obtain ⟨h0,h⟩:=zq h
    have h:=x0 h
    rcases W with _|⟨aw,ak,ai,am⟩<;>rcases R with _|⟨bw,bk,bi,bm⟩
    all_goals (
      dsimp only [xv]
      refine za ?_
      refine yi fun l' hl'=>?_
      refine za ?_
      refine yr (h l' hl') ?_
      exact zn)
   ·exact h.elim
def z9x:Spec:=fun args hp K=>match args with
  | [.ptr 0 0 0 [],.int z]=>stM hp fun p W R f n b h l=>Pre (0≤z∧z≤16384∧0≤p∧p≤16384) (K (.int (inL p z)) (stH p W R f n b h l))
  |_=>False
set_option maxHeartbeats 4000000 in
theorem yd8:zp prog 65 z9x:=by
  refine zm zau zi rfl func65 rfl call65 (D:=ykz) ?_ ?_
  ·intro args hp K h
   unfold z9x at h
   split at h
   ·exact Nat.le_of_ble_eq_true rfl
   ·exact h.elim
  ·intro args hp K h
   unfold z9x at h
   split at h
   ·rename_i z
    obtain ⟨t0,t1,t2,t3,t4,p,W,R,f,n,b,hh,l,ehp,h9⟩:=zey h
    clear h
    subst ehp
    have h:=h9
    clear h9
    obtain ⟨⟨hn0,hn1,hp0,hp1⟩,h⟩:=zq h
    by_cases h0:0<p
    ·have hq:(z+1+p-1).tdiv p=(z+1+p-1)/ p:=Int.tdiv_eq_ediv_of_nonneg (by omega)
     have hm1:=Int.ediv_mul_le (z+1+p-1) (show p≠0 by omega)
     have hm0:0≤(z+1+p-1)/ p:=Int.ediv_nonneg (by omega) (by omega)
     have hm2:0≤(z+1+p-1)/ p*p:=Int.mul_nonneg hm0 hp0
     have hm3:(z+1+p-1)/ p≤z+1+p-1:=Int.ediv_le_self _ (by omega)
     have hpd:p≠0∧ya ((z+1+p-1).tdiv p):=⟨by omega,by rw [hq];unfold ya;omega⟩
     have hpm:ya ((z+1+p-1).tdiv p*p):=by rw [hq];unfold ya;omega
     have hG:inL p z=min ((z+1+p-1).tdiv p*p) 16385:=by unfold inL;rw [if_pos h0,hq]
     rw [hG] at h
     rcases W with _|⟨aw,ak,ai,am⟩<;>rcases R with _|⟨bw,bk,bi,bm⟩
     all_goals (
       dsimp only [xv]
       refine za ?_
       refine yr h ?_
       exact zn)
    ·have hG:inL p z=z+1:=by unfold inL;rw [if_neg h0]
     rw [hG] at h
     rcases W with _|⟨aw,ak,ai,am⟩<;>rcases R with _|⟨bw,bk,bi,bm⟩
     all_goals (
       dsimp only [xv]
       refine za ?_
       refine yr h ?_
       exact zn)
   ·exact h.elim
def yld (p:Int) (W R:Option Kq) (f:Int) (n:Nat) (b h:Int) (l:List UInt8) (x:Kq):List Blk:=match W,R with
  |none,none=> [.mk 97 [.int p,.nilptr,.ptr 3 0 0 [],.ptr 1 0 0 [],.int f],.mk 121 [.sl 2 0 0 [] n n,.int b,.int h],.mk 5 [.arr8 n l],kB x]
  |some k,none=> [.mk 97 [.int p,.ptr 1 0 0 [],.ptr 4 0 0 [],.ptr 2 0 0 [],.int f],kB k,.mk 121 [.sl 3 0 0 [] n n,.int b,.int h],.mk 5 [.arr8 n l],kB x]
  |none,some r=> [.mk 97 [.int p,.nilptr,.ptr 4 0 0 [],.ptr 2 0 0 [],.int f],kB r,.mk 121 [.sl 3 0 0 [] n n,.int b,.int h],.mk 5 [.arr8 n l],kB x]
  |some k,some r=> [.mk 97 [.int p,.ptr 1 0 0 [],.ptr 5 0 0 [],.ptr 3 0 0 [],.int f],kB k,kB r,.mk 121 [.sl 4 0 0 [] n n,.int b,.int h],.mk 5 [.arr8 n l],kB x]
def yiv (p:Int) (W R:Option Kq) (f:Int) (n:Nat) (b h:Int) (l:List UInt8) (x:Kq):List Blk:=match W,R with
  |none,none=> [.mk 97 [.int p,.ptr 3 0 0 [],.nilptr,.ptr 1 0 0 [],.int f],.mk 121 [.sl 2 0 0 [] n n,.int b,.int h],.mk 5 [.arr8 n l],kB x]
  |some k,none=> [.mk 97 [.int p,.ptr 4 0 0 [],.nilptr,.ptr 2 0 0 [],.int f],kB k,.mk 121 [.sl 3 0 0 [] n n,.int b,.int h],.mk 5 [.arr8 n l],kB x]
  |none,some r=> [.mk 97 [.int p,.ptr 4 0 0 [],.ptr 1 0 0 [],.ptr 2 0 0 [],.int f],kB r,.mk 121 [.sl 3 0 0 [] n n,.int b,.int h],.mk 5 [.arr8 n l],kB x]
  |some k,some r=> [.mk 97 [.int p,.ptr 5 0 0 [],.ptr 2 0 0 [],.ptr 3 0 0 [],.int f],kB k,kB r,.mk 121 [.sl 4 0 0 [] n n,.int b,.int h],.mk 5 [.arr8 n l],kB x]
def z39:Spec:=fun args hp K=>match args,hp with
  | [.int e],[]=>ye (decide (e=0)) (K (.int 0) []) (K (.int 2300) [])
  |_,_=>False
theorem zzv:zp prog 58 z39:=by
  refine zm zau zi rfl func58 rfl call58 (D:=ylt) ?_ ?_
  ·intro args hp K h
   unfold z39 at h
   split at h
   ·exact Nat.le_of_ble_eq_true rfl
   ·exact h.elim
  ·intro args hp K h
   unfold z39 at h
   split at h
   ·rename_i e
    obtain ⟨ht,hf⟩:=z8 h
    by_cases h0:e=0
    ·have h:=ht (decide_eq_true h0)
     refine za ?_
     exact zf [] h
    ·have h:=hf (decide_eq_false h0)
     refine za ?_
     exact zf [] h
   ·exact h.elim
def zl0:Spec:=fun args hp K=>match args with
  | [.ptr 0 0 0 [],.int w,.str s]=>stM hp fun p W R f n b h l=>Pre (s.length≤140737488351232) (ye (decide (su w)) (K (.int 0) (yiv p W R f n b h l ⟨w,kyF w s,ivF w s,0⟩)) (K (.int 2100) (stH p W R f n b h l)))
  |_=>False
set_option maxHeartbeats 4000000 in
theorem zx7:zp prog 44 zl0:=by
  refine zm zau (zd zro zi) rfl func44 rfl call44 (D:=ykn) ?_ ?_
  ·intro args hp K h
   unfold zl0 at h
   split at h
   ·exact Nat.le_of_ble_eq_true rfl
   ·exact h.elim
  ·intro args hp K h
   unfold zl0 at h
   split at h
   ·rename_i w s
    obtain ⟨t0,t1,t2,t3,t4,p,W,R,f,n,b,hh,l,ehp,h9⟩:=zey h
    clear h
    subst ehp
    have h:=h9
    clear h9
    obtain ⟨hs,h⟩:=zq h
    obtain ⟨ht,hf⟩:=z8 h
    generalize e:decide (su w)=c at ht hf
    cases c
    ·have h:=hf rfl
     rcases W with _|⟨aw,ak,ai,am⟩<;>rcases R with _|⟨bw,bk,bi,bm⟩
     all_goals (
       dsimp only [xv]
       refine za ?_
       refine yr h ?_
       exact zn)
    ·have h:=ht rfl
     rcases W with _|⟨aw,ak,ai,am⟩<;>rcases R with _|⟨bw,bk,bi,bm⟩
     all_goals (
       dsimp only [xv]
       refine za ?_
       refine yr h ?_
       exact zn)
   ·exact h.elim
def zkj:Spec:=fun args hp K=>match args with
  | [.ptr 0 0 0 [],.int w,.str s]=>stM hp fun p W R f n b h l=>Pre (s.length≤140737488351232) (ye (decide (su w)) (K (.int 0) (yiv p W R f n b h l ⟨w,kyF w s,ivF w s,0⟩)) (K (.int 2300) (stH p W R f n b h l)))
  |_=>False
set_option maxHeartbeats 4000000 in
theorem z2c:zp prog 30 zkj:=by
  refine zm zau (zd zx7 (zd zzv zi)) rfl func30 rfl call30 (D:=ym3) ?_ ?_
  ·intro args hp K h
   unfold zkj at h
   split at h
   ·exact Nat.le_of_ble_eq_true rfl
   ·exact h.elim
  ·intro args hp K h
   unfold zkj at h
   split at h
   ·rename_i w s
    obtain ⟨t0,t1,t2,t3,t4,p,W,R,f,n,b,hh,l,ehp,h9⟩:=zey h
    clear h
    subst ehp
    have h:=h9
    clear h9
    obtain ⟨hs,h⟩:=zq h
    obtain ⟨ht,hf⟩:=z8 h
    generalize e:decide (su w)=c at ht hf
    cases c
    ·have h:=hf rfl
     rcases W with _|⟨aw,ak,ai,am⟩<;>rcases R with _|⟨bw,bk,bi,bm⟩
     all_goals (
       dsimp only [xv]
       refine za ?_
       refine yr h ?_
       exact zn)
    ·have h:=ht rfl
     rcases W with _|⟨aw,ak,ai,am⟩<;>rcases R with _|⟨bw,bk,bi,bm⟩
     all_goals (
       dsimp only [xv]
       refine za ?_
       refine yr h ?_
       exact zn)
   ·exact h.elim
def zmu:Spec:=fun args hp K=>match args with
  | [.ptr 0 0 0 [],.int w,.str s]=>stM hp fun p W R f n b h l=>Pre (s.length≤140737488351232) (ye (decide (su w)) (K (.int 0) (yld p W R f n b h l ⟨w,kyF w s,ivF w s,0⟩)) (K (.int 2300) (stH p W R f n b h l)))
  |_=>False
set_option maxHeartbeats 4000000 in
theorem z6c:zp prog 31 zmu:=by
  refine zm zau (zd zro (zd zzv zi)) rfl func31 rfl call31 (D:=yk1) ?_ ?_
  ·intro args hp K h
   unfold zmu at h
   split at h
   ·exact Nat.le_of_ble_eq_true rfl
   ·exact h.elim
  ·intro args hp K h
   unfold zmu at h
   split at h
   ·rename_i w s
    obtain ⟨t0,t1,t2,t3,t4,p,W,R,f,n,b,hh,l,ehp,h9⟩:=zey h
    clear h
    subst ehp
    have h:=h9
    clear h9
    obtain ⟨hs,h⟩:=zq h
    obtain ⟨ht,hf⟩:=z8 h
    generalize e:decide (su w)=c at ht hf
    cases c
    ·have h:=hf rfl
     rcases W with _|⟨aw,ak,ai,am⟩<;>rcases R with _|⟨bw,bk,bi,bm⟩
     all_goals (
       dsimp only [xv]
       refine za ?_
       refine yr h ?_
       exact zn)
    ·have h:=ht rfl
     rcases W with _|⟨aw,ak,ai,am⟩<;>rcases R with _|⟨bw,bk,bi,bm⟩
     all_goals (
       dsimp only [xv]
       refine za ?_
       refine yr h ?_
       exact zn)
   ·exact h.elim
def zqb (p z:Int):Prop:=(0≤p∧p≤16384)∧33290≤z∧z≤262144
instance (p z:Int):Decidable (zqb p z):=by unfold zqb;exact inferInstance
def z02:Spec:=fun args hp K=>match args,hp with
  | [.int p,.int z],[]=>ye (decide (zqb p z)) (K (.tup [.ptr 0 0 0 [],.int 0]) (stH p none none (-1) z.toNat 0 0 (List.replicate z.toNat 0))) (K (.tup [.nilptr,.int 2300]) [])
  |_,_=>False
set_option maxHeartbeats 4000000 in
theorem z4m:zp prog 29 z02:=by
  refine zm zau (zd zvk (zd yb2 zi)) rfl func29 rfl call29 (D:=ymw) ?_ ?_
  ·intro args hp K h
   unfold z02 at h
   split at h
   ·exact Nat.le_of_ble_eq_true rfl
   ·exact h.elim
  ·intro args hp K h
   unfold z02 at h
   split at h
   ·rename_i p z
    obtain ⟨ht,hf⟩:=z8 h
    by_cases h1:0≤p∧p≤16384
    ·have d1:=decide_eq_true h1
     by_cases h2:z<33290
     ·have h:=hf (decide_eq_false (by unfold zqb;omega))
      repeat ((conv=>whnf);first|refine zu ?_|refine zg ?_|refine zh ?_|refine zb ?_|refine zr (by first|exact d1|(rw [d1];rfl)) ?_|refine zj (by first|exact d1|(rw [d1];rfl)) ?_|refine zk (by first|exact d1|(rw [d1];rfl)) ?_)
      conv=>whnf
      exact zf [] h
     ·by_cases h3:262144<z
      ·have h:=hf (decide_eq_false (by unfold zqb;omega))
       repeat ((conv=>whnf);first|refine zu ?_|refine zg ?_|refine zh ?_|refine zb ?_|refine zr (by first|exact d1|(rw [d1];rfl)) ?_|refine zj (by first|exact d1|(rw [d1];rfl)) ?_|refine zk (by first|exact d1|(rw [d1];rfl)) ?_)
       conv=>whnf
       exact zf [] h
      ·have h:=ht (decide_eq_true (by unfold zqb;omega))
       repeat ((conv=>whnf);first|refine zu ?_|refine zg ?_|refine zh ?_|refine zb ?_|refine zr (by first|exact d1|(rw [d1];rfl)) ?_|refine zj (by first|exact d1|(rw [d1];rfl)) ?_|refine zk (by first|exact d1|(rw [d1];rfl)) ?_)
       conv=>whnf
       refine yu [3,1,2] h ?_
       exact zn
    ·have d1:=decide_eq_false h1
     have h:=hf (decide_eq_false fun hh=>h1 hh.1)
     repeat ((conv=>whnf);first|refine zu ?_|refine zg ?_|refine zh ?_|refine zb ?_|refine zr (by first|exact d1|(rw [d1];rfl)) ?_|refine zj (by first|exact d1|(rw [d1];rfl)) ?_|refine zk (by first|exact d1|(rw [d1];rfl)) ?_)
     conv=>whnf
     exact zf [] h
   ·exact h.elim
end Go.Sym.Z

namespace Go.Sym.Z
open Go Go.Proofs.Tryz Go.Sym.Lp Go.Sym.Ring Go.Sym.Cha Go.Sym.Sha Go.Sym.Hk
set_option maxRecDepth 100000
attribute [local irreducible] x3 exF kyF ivF y6 xq y3 inL ncF hdF
def ykl:List (Nat×List PStep):= []
def zdf (p:Int) (W:Option Kq) (kind:Int) (s:List UInt8):List UInt8:=match W with
  |none=>hdF kind s.length++s
  |some k=>za7 p k.w k.key k.iv k.m kind s
def upK:Option Kq→Option Kq
  |none=>none
  |some k=>some ⟨k.w,k.key,k.iv,k.m+1⟩
def wOK:Option Kq→Prop
  |none=>True
  |some k=>ze1 k.w k.key k.iv k.m
def zue:Spec:=fun args hp K=>match args with
  | [.ptr 0 0 0 [],.int kind,.str s]=>stM hp fun p W R f n b h l=>Pre (wOK W∧0≤p∧p≤16384∧s.length≤140737488351232) (ye (decide (yv kind∧s.length≤16384)) (K (.tup [.str (zdf p W kind s),.int 0]) (stH p (upK W) R f n b h l)) (K (.tup [.str [],.int 2100]) (stH p W R f n b h l)))
  |_=>False
def zsi:Spec:=fun args hp K=>match args with
  | [.ptr 0 0 0 [],.int kind,.str s]=>stM hp fun p W R f n b h l=>Pre (wOK W∧0≤p∧p≤16384∧s.length≤140737488351232) (ye (decide (yv kind∧s.length≤16384)) (K (.tup [.str (zdf p W kind s),.int 0]) (stH p (upK W) R f n b h l)) (K (.tup [.str [],.int 2300]) (stH p W R f n b h l)))
  |_=>False
set_option maxHeartbeats 8000000 in
theorem z9s:zp prog 45 zue:=by
  refine zm zau (zd z1l (zd ya4 (zd yd8 (zd z1k (zd z2q zi))))) rfl func45 rfl call45 (D:=ymr) ?_ ?_
  ·intro args hp K h
   unfold zue at h
   split at h
   ·exact Nat.le_of_ble_eq_true rfl
   ·exact h.elim
  ·intro args hp K h
   unfold zue at h
   split at h
   ·rename_i kind s
    obtain ⟨t0,t1,t2,t3,t4,p,W,R,f,n,b,hh,l,ehp,h9⟩:=zey h
    clear h
    subst ehp
    have h:=h9
    clear h9
    obtain ⟨⟨hok,hp0,hp1,hs⟩,h⟩:=zq h
    obtain ⟨ht,hf⟩:=z8 h
    by_cases hk:yv kind
    ·have dk:=decide_eq_true hk
     by_cases hl:s.length≤16384
     ·have h:=ht (decide_eq_true ⟨hk,hl⟩)
      rcases W with _|⟨aw,akey,aiv,am⟩
      ·have hhl:=zhx kind s.length
       rcases R with _|⟨bw,bk,bi,bm⟩
       all_goals (
         dsimp only [xv]
         repeat ((conv=>whnf);first|refine zu ?_|refine zg ?_|refine zh ?_|refine zb ?_|refine zr (by first|exact dk|(rw [dk];rfl)) ?_|refine zj (by first|exact dk|(rw [dk];rfl)) ?_|refine zk (by first|exact dk|(rw [dk];rfl)) ?_)
         conv=>whnf
         refine yr h ?_
         exact zn)
      ·have hok:ze1 aw akey aiv am:=hok
       have hky:=zjh hok
       obtain ⟨hw,hkl,hiv,hm0,hm1⟩:=hok
       have hnl:=zms aiv am
       have hin:0≤(s.length:Int)∧(s.length:Int)≤16384∧0≤p∧p≤16384:=⟨by omega,by omega,hp0,hp1⟩
       obtain ⟨hi1,hi2⟩:=zzm (p:=p) (n:=(s.length:Int)) (by omega) (by omega) hp0
       obtain ⟨L,hL⟩: ∃L:Nat,inL p (s.length:Int)=(L:Int):=⟨_,(Int.toNat_of_nonneg (by omega)).symm⟩
       have hLn:(inL p (s.length:Int)).toNat=L:=by rw [hL];exact Int.toNat_natCast _
       dsimp only [zdf,upK] at h
       unfold za7 zcl at h
       have hcast:(L:Int)+16=((L+16:Nat):Int):=by omega
       rw [hLn,hL,hcast] at h
       have hLt:((L:Int)+16).toNat=L+16:=by omega
       have hix:off (yb [] ((s.length:Int)).toNat ty5.sz)=s.length:=by rw [zy];show 0+((s.length:Int)).toNat*1=_;omega
       have hsl1:s.length+1≤L:=by omega
       have hB:=z8i (L:=L) (s:=s) hsl1 (UInt8.ofInt kind) hix
       obtain ⟨BB,hBB⟩: ∃BB,BB=s++UInt8.ofInt kind ::List.replicate (L+16-s.length-1) 0:=⟨_,rfl⟩
       have hBl:BB.length=L+16:=by rw [hBB,List.length_append,List.length_cons,List.length_replicate];omega
       have hBt:BB.take (L+16-16)=s++UInt8.ofInt kind ::List.replicate (L-s.length-1) 0:=by rw [hBB,Nat.add_sub_cancel];exact zxy hsl1 _
       rw [←hBB] at hB
       have hps:off (yb [] ((s.length:Int)).toNat ty5.sz)<(zx (List.replicate (L+16) 0) (off []) (List.take (min s.length (L+16)) s)).length:=by
         have:=congrArg List.length hB
         rw [List.length_set] at this
         rw [hix];omega
       have hhl:=zhx 23 ((L+16:Nat):Int)
       have hAl:(y6 aw akey (ncF aiv am) (hdF 23 ((L+16:Nat):Int)) (BB.take (L+16-16))).length=L+16:=by
         rw [ze5,List.length_append,zc9,zar,List.length_take,hBl];omega
       have hpn:L+16=BB.length∧16≤L+16∧zrg aw akey (ncF aiv am) (hdF 23 ((L+16:Nat):Int)) (((L+16:Nat):Int)+0-16):=⟨hBl.symm,by omega,hky,by rw [hnl,hiv],by omega,by omega⟩
       have hpo:off []+(L+16)≤(y6 aw akey (ncF aiv am) (hdF 23 ((L+16:Nat):Int)) (BB.take (L+16-16))).length:=by rw [hAl];show 0+_≤_;omega
       have hte:List.take (L+16) (List.drop (off []) (y6 aw akey (ncF aiv am) (hdF 23 ((L+16:Nat):Int)) (BB.take (L+16-16))))=y6 aw akey (ncF aiv am) (hdF 23 ((L+16:Nat):Int)) (BB.take (L+16-16)):=List.take_of_length_le (Nat.le_of_eq hAl)
       rw [←hBt] at h
       rcases R with _|⟨bw,bk,bi,bm⟩
       all_goals (
         dsimp only [xv]
         repeat ((conv=>whnf);first|refine zu ?_|refine zg ?_|refine zh ?_|refine zb ?_|refine zr (by first|exact dk|(rw [dk];rfl)) ?_|refine zj (by first|exact dk|(rw [dk];rfl)) ?_|refine zk (by first|exact dk|(rw [dk];rfl)) ?_)
         conv=>whnf
         rw [hL,hLt]
         refine za ?_
         rw [hB]
         refine za ?_
         rw [hte]
         refine za ?_
         refine yr h ?_
         exact zn)
     ·have h:=hf (decide_eq_false fun hh=>hl hh.2)
      rcases W with _|⟨aw,akey,aiv,am⟩<;>rcases R with _|⟨bw,bk,bi,bm⟩
      all_goals (
        dsimp only [xv]
        repeat ((conv=>whnf);first|refine zu ?_|refine zg ?_|refine zh ?_|refine zb ?_|refine zr (by first|exact dk|(rw [dk];rfl)) ?_|refine zj (by first|exact dk|(rw [dk];rfl)) ?_|refine zk (by first|exact dk|(rw [dk];rfl)) ?_)
        conv=>whnf
        refine yr h ?_
        exact zn)
    ·have dk:=decide_eq_false hk
     have h:=hf (decide_eq_false fun hh=>hk hh.1)
     rcases W with _|⟨aw,akey,aiv,am⟩<;>rcases R with _|⟨bw,bk,bi,bm⟩
     all_goals (
       dsimp only [xv]
       repeat ((conv=>whnf);first|refine zu ?_|refine zg ?_|refine zh ?_|refine zb ?_|refine zr (by first|exact dk|(rw [dk];rfl)) ?_|refine zj (by first|exact dk|(rw [dk];rfl)) ?_|refine zk (by first|exact dk|(rw [dk];rfl)) ?_)
       conv=>whnf
       refine yr h ?_
       exact zn)
   ·exact h.elim
attribute [local irreducible] za7 zdf
set_option maxHeartbeats 8000000 in
theorem z00:zp prog 32 zsi:=by
  refine zm zau (zd z9s (zd zzv zi)) rfl func32 rfl call32 (D:=ykl) ?_ ?_
  ·intro args hp K h
   unfold zsi at h
   split at h
   ·exact Nat.le_of_ble_eq_true rfl
   ·exact h.elim
  ·intro args hp K h
   unfold zsi at h
   split at h
   ·rename_i kind s
    obtain ⟨t0,t1,t2,t3,t4,p,W,R,f,n,b,hh,l,ehp,h9⟩:=zey h
    clear h
    subst ehp
    have h:=h9
    clear h9
    obtain ⟨hpre,h⟩:=zq h
    obtain ⟨ht,hf⟩:=z8 h
    generalize e:decide (yv kind∧s.length≤16384)=c at ht hf
    cases c
    ·have h:=hf rfl
     rcases W with _|⟨aw,akey,aiv,am⟩<;>rcases R with _|⟨bw,bk,bi,bm⟩
     all_goals (
       dsimp only [xv]
       repeat ((conv=>whnf);first|refine zu ?_|refine zg ?_|refine zh ?_|refine zb ?_|refine zr (by first|exact e|(rw [e];rfl)) ?_|refine zj (by first|exact e|(rw [e];rfl)) ?_|refine zk (by first|exact e|(rw [e];rfl)) ?_)
       conv=>whnf
       refine yr h ?_
       exact zn)
    ·have h:=ht rfl
     rcases W with _|⟨aw,akey,aiv,am⟩<;>rcases R with _|⟨bw,bk,bi,bm⟩
     all_goals (
       dsimp only [xv]
       repeat ((conv=>whnf);first|refine zu ?_|refine zg ?_|refine zh ?_|refine zb ?_|refine zr (by first|exact e|(rw [e];rfl)) ?_|refine zj (by first|exact e|(rw [e];rfl)) ?_|refine zk (by first|exact e|(rw [e];rfl)) ?_)
       conv=>whnf
       refine yr h ?_
       exact zn)
   ·exact h.elim
end Go.Sym.Z

namespace Go.Sym.Ring
open Go Go.Sym Go.Sym.Lp
set_option maxRecDepth 100000
theorem yk6 {b a i n:Nat} (hb:b<n) (ha:a≤n) (hi:i<n):((if b+i<n then b+i else b+i-n)+n-(b+a)%n)%n=if a≤i then i-a else i+n-a:=by
  rw [place hb ha]
  have hm: ∀x r:Nat,r<n→(x=r∨x=r+n)→x%n=r:=by
    intro x r hr h
    rcases h with h|h
    ·subst h;exact Nat.mod_eq_of_lt hr
    ·subst h;rw [Nat.add_mod_right,Nat.mod_eq_of_lt hr]
  apply hm
  ·split<;>omega
  ·(repeat' split)<;>omega
theorem z03 {l l' s:List UInt8} {b h a:Nat} (hb:b<l.length) (ha:a+s.length≤h) (hh:h≤l.length) (hl:l'.length=l.length)
    (hw: ∀i,i<l.length→l'[i]?=if (i+l.length-(b+a)%l.length)%l.length<s.length then s[(i+l.length-(b+a)%l.length)%l.length]? else l[i]?):
    zl l' b h=(zl l b h).take a++s++(zl l b h).drop (a+s.length):=by
  have hcl:(zl l b h).length=h:=zag (by omega) hh
  have htl:((zl l b h).take a).length=a:=by rw [List.length_take];omega
  apply List.ext_getElem?
  intro i
  by_cases hi:i<h
  ·have hq:(zl l' b h)[i]?=l'[if b+i<l.length then b+i else b+i-l.length]?:=by
     rw [za2 (by omega) hi (by omega),hl];split<;>rfl
   have hq2:(zl l b h)[i]?=l[if b+i<l.length then b+i else b+i-l.length]?:=by
     rw [za2 hb hi hh];split<;>rfl
   rw [hq,hw _ (by split<;>omega),yk6 hb (by omega) (by omega),←hq2]
   by_cases h1:i<a
   ·rw [if_neg (show ¬a≤i by omega),if_neg (by omega),List.append_assoc,List.getElem?_append_left (by omega),List.getElem?_take,if_pos h1]
   ·rw [if_pos (show a≤i by omega)]
    by_cases h2:i<a+s.length
    ·rw [if_pos (by omega),List.getElem?_append_left (by rw [List.length_append];omega),List.getElem?_append_right (by omega),htl]
    ·rw [if_neg (by omega),List.getElem?_append_right (by rw [List.length_append];omega),List.getElem?_drop,List.length_append,htl]
     congr 1;omega
  ·rw [zdv (by omega) (by omega) (by omega),List.getElem?_eq_none (by rw [List.length_append,List.length_append,htl,List.length_drop,hcl];omega)]
theorem ycm {l s:List UInt8} {n p:Nat} (hl:l.length=n) (hf:p+s.length≤n) (i:Nat) (hi:i<n):
    (zx l p s)[i]?=if (i+n-p)%n<s.length then s[(i+n-p)%n]? else l[i]?:=by
  rw [zcz (by omega)]
  by_cases hpi:p≤i
  ·have:(i+n-p)%n=i-p:=by rw [Nat.mod_eq_sub_mod (by omega),Nat.mod_eq_of_lt (by omega)];omega
   rw [this]
   by_cases h3:i<p+s.length
   ·rw [if_pos ⟨hpi,h3⟩,if_pos (by omega)]
   ·rw [if_neg (by omega),if_neg (by omega)]
  ·by_cases hp:p=n
   ·have h0:s= []:=List.length_eq_zero_iff.1 (by omega)
    subst h0
    rw [if_neg (by simp),if_neg (by simp)]
   ·have:(i+n-p)%n=i+n-p:=Nat.mod_eq_of_lt (by omega)
    rw [this,if_neg (by omega),if_neg (by omega)]
theorem ybo {l s:List UInt8} {n p:Nat} (hl:l.length=n) (hp:p<n) (hf:n<p+s.length) (hs:s.length≤n) (i:Nat) (hi:i<n):
    (zx (zx l p (s.take (n-p))) 0 ((s.drop (n-p)).take (s.length-(n-p))))[i]?=if (i+n-p)%n<s.length then s[(i+n-p)%n]? else l[i]?:=by
  have f1:(s.take (n-p)).length=n-p:=by rw [List.length_take];omega
  have f2:((s.drop (n-p)).take (s.length-(n-p))).length=s.length-(n-p):=by rw [List.length_take,List.length_drop];omega
  have g1:p+(s.take (n-p)).length≤l.length:=by omega
  rw [zcz (by rw [xp g1];omega),zcz g1,f1,f2]
  by_cases hpi:p≤i
  ·have:(i+n-p)%n=i-p:=by rw [Nat.mod_eq_sub_mod (by omega),Nat.mod_eq_of_lt (by omega)];omega
   rw [this,if_neg (by omega),if_pos (by omega),if_pos (by omega),List.getElem?_take,if_pos (by omega)]
  ·have:(i+n-p)%n=i+n-p:=Nat.mod_eq_of_lt (by omega)
   rw [this]
   by_cases h3:i<s.length-(n-p)
   ·rw [if_pos (by omega),if_pos (by omega),List.getElem?_take,if_pos (by omega),List.getElem?_drop]
    congr 1;omega
   ·rw [if_neg (by omega),if_neg (by omega),if_neg (by omega)]
theorem yco {l s:List UInt8} {n:Nat} {b h a k:Int} (hl:l.length=n) (hb:0≤b) (hb':b<n) (hh:0≤h) (hh':h≤n) (ha:0≤a) (hk:0≤k) (hak:k≤h-a) (hp:(b+a).tmod n+k≤n) (hs:s.length=k.toNat):
    zl (zx l (off [(slO ((b+a).tmod n+k).toNat ((b+a).tmod n).toNat,1)]) s) b.toNat h.toNat=(zl l b.toNat h.toNat).take a.toNat++s++(zl l b.toNat h.toNat).drop (a.toNat+k.toNat)∧(zx l (off [(slO ((b+a).tmod n+k).toNat ((b+a).tmod n).toNat,1)]) s).length=n:=by
  have hm0:0≤(b+a).tmod n:=Int.tmod_nonneg _ (by omega)
  have hm1:(b+a).tmod n<n:=Int.tmod_lt_of_pos _ (by omega)
  have e0:((b+a).tmod n).toNat=(b.toNat+a.toNat)%n:=by rw [zeg (by omega)];congr 1;omega
  by_cases h0:k=0
  ·subst h0
   have:s= []:=List.length_eq_zero_iff.1 (by simpa using hs)
   subst this
   have e:zx l (off [(slO ((b+a).tmod n+0).toNat ((b+a).tmod n).toNat,1)]) []=l:=by simp [zx]
   rw [e,List.append_nil]
   exact ⟨(List.take_append_drop _ _).symm,hl⟩
  ·rw [y7 (by omega),e0]
   have hoff:off [((b.toNat+a.toNat)%n,1)]=(b.toNat+a.toNat)%n:=by simp [off,zib]
   rw [hoff,←hs]
   have hfit:(b.toNat+a.toNat)%n+s.length≤n:=by omega
   refine ⟨?_,by rw [xp (by omega),hl]⟩
   subst hl
   exact z03 (by omega) (by omega) (by omega) (xp hfit) (fun i hi=>ycm rfl hfit i hi)
theorem ybq {l s:List UInt8} {n:Nat} {b h a k:Int} (hl:l.length=n) (hb:0≤b) (hb':b<n) (hh:0≤h) (hh':h≤n) (ha:0≤a) (hk:0≤k) (hak:k≤h-a) (hp: ¬(b+a).tmod n+k≤n) (hs:s.length=k.toNat):
    zl (zx (zx l (off [(slO n ((b+a).tmod n).toNat,1)]) (s.take (n-((b+a).tmod n).toNat))) (off []) ((s.drop (n-((b+a).tmod n).toNat)).take (k-n+(b+a).tmod n).toNat)) b.toNat h.toNat=(zl l b.toNat h.toNat).take a.toNat++s++(zl l b.toNat h.toNat).drop (a.toNat+k.toNat)∧
    (zx (zx l (off [(slO n ((b+a).tmod n).toNat,1)]) (s.take (n-((b+a).tmod n).toNat))) (off []) ((s.drop (n-((b+a).tmod n).toNat)).take (k-n+(b+a).tmod n).toNat)).length=n:=by
  have hm0:0≤(b+a).tmod n:=Int.tmod_nonneg _ (by omega)
  have hm1:(b+a).tmod n<n:=Int.tmod_lt_of_pos _ (by omega)
  have e0:((b+a).tmod n).toNat=(b.toNat+a.toNat)%n:=by rw [zeg (by omega)];congr 1;omega
  have e5:(k-n+(b+a).tmod n).toNat=s.length-(n-(b.toNat+a.toNat)%n):=by omega
  rw [e5,y7 (by omega),e0,←hs]
  have hoff:off [((b.toNat+a.toNat)%n,1)]=(b.toNat+a.toNat)%n:=by simp [off,zib]
  have hlt:(b.toNat+a.toNat)%n<n:=Nat.mod_lt _ (by omega)
  rw [hoff]
  have e6:off []=0:=rfl
  rw [e6]
  have hf:n<(b.toNat+a.toNat)%n+s.length:=by omega
  have g1:(b.toNat+a.toNat)%n+(s.take (n-(b.toNat+a.toNat)%n)).length≤l.length:=by rw [List.length_take];omega
  have hlen:(zx (zx l ((b.toNat+a.toNat)%n) (s.take (n-(b.toNat+a.toNat)%n))) 0 ((s.drop (n-(b.toNat+a.toNat)%n)).take (s.length-(n-(b.toNat+a.toNat)%n)))).length=n:=by
    rw [xp (by rw [xp g1,List.length_take,List.length_drop];omega),xp g1,hl]
  refine ⟨?_,hlen⟩
  subst hl
  exact z03 (by omega) (by omega) (by omega) hlen (fun i hi=>ybo rfl hlt hf (by omega) i hi)
end Go.Sym.Ring

namespace Go.Sym.Z
open Go Go.Proofs.Tryz Go.Sym.Lp Go.Sym.Ring Go.Sym.Cha Go.Sym.Sha Go.Sym.Hk
set_option maxRecDepth 100000
attribute [local irreducible] x3 exF kyF ivF y6 xq y3 inL ncF hdF lnz iA two zb8 zl
def yju:List (Nat×TyI):= [(3,ty3),(4,ty4),(5,ty5),(9,ty9),(48,zd6),(51,zeb),(113,xw),(99,xj),(103,zgc),(68,zmk),(70,zmn),(104,zgh),(97,zqc),(56,zpa),(121,zf8),(93,zmm),(43,zlv),(143,zp3)]
theorem z9i: ∀t i,y8 yju t=some i→yt prog t i:=(zc zbg (zc zbj (zc zbc (zc zbf (zc zaq (zc zap (zc zai (zc za6 (zc ze7 (zc zhz (zc zhv (zc zfh (zc zj3 (zc zjx (zc ze3 (zc zhy (zc zf5 (zc z9y x1))))))))))))))))))
structure Pq where
  oa:List (Nat×Nat)
  na:Nat
  ca:Nat
  ob:List (Nat×Nat)
  nb:Nat
  cb:Nat
  one:Bool
structure PqOK (q:Pq) (n:Nat) (b h a k:Int):Prop where
  h1:q.one=true→q.ob= []∧q.nb=0
  hn:q.na+q.nb=k.toNat
  ha:off q.oa+q.na≤n
  hb:off q.ob+q.nb≤n
  h2: ∀l:List UInt8,l.length=n→two l (off q.oa) q.na (off q.ob) q.nb=((zl l b.toNat h.toNat).drop a.toNat).take k.toNat
  h3: ∀l s:List UInt8,l.length=n→s.length=k.toNat→(zb8 l (off q.oa) q.na (off q.ob) q.nb s).length=n∧zl (zb8 l (off q.oa) q.na (off q.ob) q.nb s) b.toNat h.toNat=(zl l b.toNat h.toNat).take a.toNat++s++(zl l b.toNat h.toNat).drop (a.toNat+k.toNat)
theorem yek {n:Nat} {b h a k:Int} (ca:Nat) (hb:0≤b) (hb':b<n) (hh:0≤h) (hh':h≤n) (ha:0≤a) (hk:0≤k) (hak:k≤h-a) (hp:(b+a).tmod n+k≤n):
    PqOK ⟨[(slO ((b+a).tmod n+k).toNat ((b+a).tmod n).toNat,1)],((b+a).tmod n+k).toNat-((b+a).tmod n).toNat,ca,[],0,0,true⟩ n b h a k:=by
  have hm0:0≤(b+a).tmod n:=Int.tmod_nonneg _ (by omega)
  have hm1:(b+a).tmod n<n:=Int.tmod_lt_of_pos _ (by omega)
  have hs:=zix ((b+a).tmod n+k).toNat ((b+a).tmod n).toNat
  refine ⟨fun _=>⟨rfl,rfl⟩,by dsimp only;omega,?_,by show 0+0≤n;omega,fun l hl=>?_,fun l s hl hsl=>?_⟩
  ·dsimp only
   show slO _ _+_≤n
   by_cases h0:k=0
   ·omega
   ·omega
  ·have:=zq6 (l:=l) (h:=h) hl hb hb' hh hh' ha hk hak hp
   unfold two
   show _++List.take 0 _=_
   rw [List.take_zero,List.append_nil]
   exact this
  ·obtain ⟨e1,e2⟩:=yco (l:=l) (s:=s) (h:=h) hl hb hb' hh hh' ha hk hak hp hsl
   have e:zb8 l (off [(slO ((b+a).tmod n+k).toNat ((b+a).tmod n).toNat,1)]) (((b+a).tmod n+k).toNat-((b+a).tmod n).toNat) (off []) 0 s=zx l (off [(slO ((b+a).tmod n+k).toNat ((b+a).tmod n).toNat,1)]) s:=by
     unfold zb8
     rw [List.take_zero,List.take_of_length_le (show s.length≤_ by omega)]
     generalize zx l _ s=y
     show zx y 0 []=y
     simp [zx]
   show (zb8 l _ _ _ _ s).length=n∧zl (zb8 l _ _ _ _ s) _ _=_
   rw [e]
   exact ⟨e2,e1⟩
theorem ygb {n:Nat} {b h a k:Int} (ca cb:Nat) (hb:0≤b) (hb':b<n) (hh:0≤h) (hh':h≤n) (ha:0≤a) (hk:0≤k) (hak:k≤h-a) (hp: ¬(b+a).tmod n+k≤n):
    PqOK ⟨[(slO n ((b+a).tmod n).toNat,1)],n-((b+a).tmod n).toNat,ca,[],(k-n+(b+a).tmod n).toNat,cb,false⟩ n b h a k:=by
  have hm0:0≤(b+a).tmod n:=Int.tmod_nonneg _ (by omega)
  have hm1:(b+a).tmod n<n:=Int.tmod_lt_of_pos _ (by omega)
  have hs:=zix n ((b+a).tmod n).toNat
  refine ⟨fun h=>Bool.noConfusion h,by dsimp only;omega,?_,by dsimp only;show 0+_≤n;omega,fun l hl=>?_,fun l s hl hsl=>?_⟩
  ·dsimp only
   show slO _ _+_≤n
   omega
  ·have:=zrt (l:=l) (h:=h) hl hb hb' hh hh' ha hk hak hp
   unfold two
   exact this
  ·obtain ⟨e1,e2⟩:=ybq (l:=l) (s:=s) (h:=h) hl hb hb' hh hh' ha hk hak hp hsl
   unfold zb8
   exact ⟨e2,e1⟩
def zv2:Spec:=fun args hp K=>match args,hp with
  | [.ptr 0 0 0 [],.int a,.int k],[.mk t [.sl 1 0 0 [] n c,.int b,.int h],.mk u [.arr8 m l]]=>
    Pre (yj n c m l b h∧0≤a∧0≤k∧a≤h∧k≤h-a)
      (zaz fun q:Pq=>PqOK q n b h a k→ye q.one
        (K (.tup [.sl 1 0 0 q.oa q.na q.ca,.nilsl]) [.mk t [.sl 1 0 0 [] n c,.int b,.int h],.mk u [.arr8 m l]])
        (K (.tup [.sl 1 0 0 q.oa q.na q.ca,.sl 1 0 0 q.ob q.nb q.cb]) [.mk t [.sl 1 0 0 [] n c,.int b,.int h],.mk u [.arr8 m l]]))
  |_,_=>False
theorem z2r:zp prog 110 zv2:=z8f z4g (by
  intro args hp K h
  unfold zv2 at h
  split at h
  ·rename_i a k t n c b hh u m l
   obtain ⟨hpre,h⟩:=zq h
   have h:=x0 h
   unfold zmw
   refine zr hpre ?_
   obtain ⟨h0,ha,hk,h1,h2⟩:=hpre
   unfold yj at h0
   have hcn:c=n:=by omega
   subst hcn
   by_cases hd:(b+a).tmod c+k≤c
   ·refine zj (decide_eq_true hd) ?_
    have h:=h _ (yek (n:=c) (((b+a).tmod c+k).toNat-((b+a).tmod c).toNat) (by omega) (by omega) (by omega) (by omega) ha hk h2 hd)
    exact (z8 h).1 rfl
   ·refine zk (decide_eq_false hd) ?_
    have h:=h _ (ygb (n:=c) (c-((b+a).tmod c).toNat) (k-c+(b+a).tmod c).toNat (by omega) (by omega) (by omega) (by omega) ha hk h2 hd)
    exact (z8 h).2 rfl
  ·exact h.elim)
end Go.Sym.Z
