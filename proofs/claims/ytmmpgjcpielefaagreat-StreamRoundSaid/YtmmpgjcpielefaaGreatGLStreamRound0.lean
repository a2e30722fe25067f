/-
  Contracts of functions of the program, each said of symbolic values, and plain laws; no condition beyond each statement's own.
-/
import Derived.Test.YtmmpgjcpielefaaGreatG32
set_option linter.unusedSimpArgs false
set_option linter.unusedVariables false
namespace Go.Sym.Z
open Go Go.Proofs.Tryz Go.Sym.Lp Go.Sym.Ring Go.Sym.Cha Go.Sym.Sha Go.Sym.Hk Go.Sym.Gcm
set_option maxRecDepth 100000
def ybv:List (Nat×List PStep):= []
structure DQ where
  d:List UInt8
  tl:List UInt8
  v:UInt64
  h:(d.length=1∧v.toNat≤9)∨(d.length=2∧v.toNat=0)
def zku:Spec:=fun args hp K=>match args,hp with
  | [.int x],[]=>Pre (0≤x∧x≤99) (x9 fun d:List UInt8=>d.length≤2→K (.str d) [])
  |_,_=>False
set_option maxHeartbeats 4000000 in
theorem z1b:zp prog 36 zku:=by
  refine zl zo8 zg rfl func36 rfl call36 (D:=ybv) ?_ ?_
  ·intro args hp K h
   unfold zku at h
   split at h
   ·exact Nat.le_of_ble_eq_true rfl
   ·exact h.elim
  ·intro args hp K h
   unfold zku at h
   split at h
   ·rename_i x
    obtain ⟨⟨h0,h1⟩,h⟩:=zi h
    have hv:(UInt64.ofInt x).toNat≤99:=by
      have:=zrw x
      omega
    have hten:(10:UInt64).toNat=10:=rfl
    refine za ?_
    refine zx (Option DQ) (fun z=>match z with
      |none=>⟨[(0,.int x),(3,.u64 (UInt64.ofInt x)),(4,.nilsl)],[]⟩
      |some q=>⟨[(0,.int x),(3,.u64 q.v),(4,.sl 0 0 0 [] q.d.length (q.d.length+q.tl.length))],[.mk 5 [.arr8 (q.d.length+q.tl.length) (q.d++q.tl)]]⟩) (fun z=>match z with
      |none=>3
      |some q=>2-q.d.length) none [] ?_ ?_
    ·exact zo
    ·intro z
     have hlit: ∀c:UInt8,List.take 1 ((List.replicate 1 0).set (off [(0,ty5.sz)]) c)= [c]:=fun c=>rfl
     rcases z with _|⟨d,tl,v,hd⟩
     ·have hnx:(UInt64.ofInt x/ UInt64.ofNat 10).toNat≤9:=by rw [UInt64.toNat_div];show _/ 10≤9;omega
      conv=>whnf
      by_cases hz:UInt64.ofNat 0<UInt64.ofInt x
      case' pos=>have dz:=decide_eq_true hz
      case' neg=>have dz:=decide_eq_false hz
      all_goals (
        repeat ((conv=>whnf);first|refine zy ?_|refine zk ?_|refine zj ?_|refine zc ?_|refine zv (by first|exact dz|(rw [dz];rfl)|(refine ⟨?_,?_,?_⟩<;>simp)) ?_|refine zr (by first|exact dz|(rw [dz];rfl)|(refine ⟨?_,?_,?_⟩<;>simp)) ?_|refine zq (by first|exact dz|(rw [dz];rfl)|(refine ⟨?_,?_,?_⟩<;>simp)) ?_)
        conv=>whnf
        refine yf fun t1=>?_
        repeat ((conv=>whnf);first|refine zy ?_|refine zk ?_|refine zj ?_|refine zc ?_|refine zv (by first|exact dz|(rw [dz];rfl)) ?_|refine zr (by first|exact dz|(rw [dz];rfl)) ?_|refine zq (by first|exact dz|(rw [dz];rfl)) ?_)
        conv=>whnf
        refine ⟨some ⟨[(UInt64.ofNat 48+UInt64.ofInt x%UInt64.ofNat 10).toUInt8],t1,UInt64.ofInt x/ UInt64.ofNat 10,.inl ⟨rfl,hnx⟩⟩,[1],by show 2-1<3;decide,?_⟩
        exact zo)
     ·have hp:off []+d.length≤(d++tl).length:=by rw [List.length_append];show 0+_≤_;omega
      have htk:List.take d.length (List.drop (off []) (d++tl))=d:=List.take_left' rfl
      by_cases hz:UInt64.ofNat 0<v
      ·have dz:=decide_eq_true hz
       have hv1:d.length=1∧v.toNat≤9:=by
         rcases hd with hd|hd
         ·exact hd
         ·have:(0:Nat)<v.toNat:=UInt64.lt_iff_toNat_lt.1 hz
          omega
       have hnx:(v/ UInt64.ofNat 10).toNat=0:=by rw [UInt64.toNat_div];show _/ 10=0;omega
       conv=>whnf
       repeat ((conv=>whnf);first|refine zy ?_|refine zk ?_|refine zj ?_|refine zc ?_|refine zv (by first|exact dz|(rw [dz];rfl)) ?_|refine zr (by first|exact dz|(rw [dz];rfl)) ?_|refine zq (by first|exact dz|(rw [dz];rfl)) ?_)
       conv=>whnf
       rw [htk]
       repeat ((conv=>whnf);first|refine zy ?_|refine zk ?_|refine zj ?_|refine zc ?_|refine zv (by first|exact dz|(rw [dz];rfl)|(refine ⟨?_,?_,?_⟩<;>first|(rw [List.length_set,List.length_replicate];done)|omega)) ?_|refine zr (by first|exact dz|(rw [dz];rfl)|(refine ⟨?_,?_,?_⟩<;>first|(rw [List.length_set,List.length_replicate];done)|omega)) ?_|refine zq (by first|exact dz|(rw [dz];rfl)|(refine ⟨?_,?_,?_⟩<;>first|(rw [List.length_set,List.length_replicate];done)|omega)) ?_)
       conv=>whnf
       refine yf fun t1=>?_
       repeat ((conv=>whnf);first|refine zy ?_|refine zk ?_|refine zj ?_|refine zc ?_|refine zv (by first|exact dz|(rw [dz];rfl)) ?_|refine zr (by first|exact dz|(rw [dz];rfl)) ?_|refine zq (by first|exact dz|(rw [dz];rfl)) ?_)
       conv=>whnf
       obtain ⟨d2,hd2⟩: ∃d2,d2= [(UInt64.ofNat 48+v%UInt64.ofNat 10).toUInt8]++d:=⟨_,rfl⟩
       have hcl:d2.length=1+d.length:=by rw [hd2,List.length_append];rfl
       refine ⟨some ⟨d2,t1,v/ UInt64.ofNat 10,.inr ⟨by omega,hnx⟩⟩,[2],by show 2-d2.length<2-d.length;omega,?_⟩
       conv=>whnf
       refine z9 (show SV.agg [SV.arr8 (1+d.length+t1.length) ([(UInt64.ofNat 48+v%UInt64.ofNat 10).toUInt8]++d++t1)]=SV.agg [SV.arr8 (d2.length+t1.length) (d2++t1)] by rw [hcl,hd2]) ?_
       repeat ((conv=>whnf);refine zc ?_)
       conv=>whnf
       exact zu (show SV.sl _ 0 0 [] (1+d.length) (1+d.length+t1.length)=SV.sl _ 0 0 [] d2.length (d2.length+t1.length) by rw [hcl];rfl)
      ·have dz:=decide_eq_false hz
       have hd0:decide ((d.length:Int)=0)=false:=decide_eq_false (by omega)
       conv=>whnf
       repeat ((conv=>whnf);first|refine zy ?_|refine zk ?_|refine zj ?_|refine zc ?_|refine zv (by first|exact dz|(rw [dz];rfl)|exact hd0|(rw [hd0];rfl)) ?_|refine zr (by first|exact dz|(rw [dz];rfl)|exact hd0|(rw [hd0];rfl)) ?_|refine zq (by first|exact dz|(rw [dz];rfl)|exact hd0|(rw [hd0];rfl)) ?_)
       conv=>whnf
       rw [show List.take (DQ.mk d tl v hd).d.length (List.drop (off []) ((DQ.mk d tl v hd).d++(DQ.mk d tl v hd).tl))=d from htk]
       refine yu (hp':= []) [] (xj h d (by omega)) ?_
       exact zo
   ·exact h.elim
end Go.Sym.Z

namespace Go.Sym.Z
open Go Go.Proofs.Tryz Go.Sym.Lp Go.Sym.Ring Go.Sym.Cha Go.Sym.Sha Go.Sym.Hk Go.Sym.Gcm
set_option maxRecDepth 100000
def pl7:List (Nat×List PStep):= [(11,[⟨0,[]⟩,⟨1,[0]⟩,⟨2,[]⟩,⟨3,[]⟩,⟨4,[]⟩,⟨5,[]⟩,⟨6,[]⟩,⟨7,[0,1,2,3,4,5,6]⟩,⟨8,[0,1,2,3,4,5,6]⟩,⟨9,[]⟩,⟨10,[]⟩])]
def z69:List (Nat×TyI):= [(3,ty3),(4,ty4),(5,ty5),(9,ty9),(48,zc6),(51,zcx),(113,zad),(99,x4),(103,zcv),(68,zg4),(70,zhj),(104,zcz),(97,zia),(56,zis),(121,zcy),(93,zg2),(43,zhk),(59,zmf)]
theorem z4s: ∀t i,yz z69 t=some i→yn prog t i:=(zb ty3_ok (zb zbu (zb zby (zb zbz (zb zaw (zb za2 (zb zaq (zb zbp (zb ze3 (zb ziz (zb zh7 (zb zf7 (zb zkl (zb zko (zb ze7 (zb zif (zb zip (zb z4i zae))))))))))))))))))
def zs7:List (Nat×Spec):=(36,zku) ::zpq
theorem zx0: ∀f S,yz zs7 f=some S→zp prog f S:=ze z1b zon
theorem z07 {p w:Int} {key iv:List UInt8} {m kind:Int} {s:List UInt8} (hs:s.length≤16384) (hp:0≤p) {j:Nat} (hj:j<(yt p w key iv m kind s).length):
    nxR (some ⟨w,key,iv,m⟩) ((yt p w key iv m kind s).take j)= .no (-1):=by
  obtain ⟨h1,h2,h3,h4,h5,h6,h7⟩:=zru (w:=w) (key:=key) (iv:=iv) (m:=m) (kind:=kind) [] hs hp
  rw [List.append_nil] at h1 h2 h4 h7
  generalize yt p w key iv m kind s=X at*
  have hl:(X.take j).length=j:=by rw [List.length_take];omega
  unfold nxR
  by_cases hj5:j<5
  ·rw [if_pos (by omega)]
  ·have e5:(X.take j).take 5=X.take 5:=by rw [List.take_take,Nat.min_eq_left (by omega)]
   have eA:hA (X.take j) true= -1:=by rw [←z7g,e5,z7g];exact h2
   have eN:hN (X.take j)=hN X:=by rw [←z44,e5,z44]
   have hR0:=congrArg List.length h7
   unfold hR at hR0
   rw [List.length_drop,List.length_nil] at hR0
   have:=z16 X
   rw [if_neg (by omega),if_pos (show hA (X.take j) (some (Kq.mk w key iv m)).isSome= -1 from eA),if_pos (by rw [eN];omega)]
theorem zyd {r:List At} (h:zhb [.i] r): ∃k,r= [.int k]:=by
  match r,h with
  | [.int k],_=>exact ⟨k,rfl⟩
structure RQ2 (n:Nat) where
  i:Nat
  hi:i≤n
  h16:i≤16
  l:List UInt8
  b:Int
  h:Int
  hr:rst (Int.toNat 33290) b h l []
structure JQs (S:List UInt8) where
  at_:Nat
  j:Nat
  hj:j≤at_
  ha:at_<S.length
  l:List UInt8
  b:Int
  h:Int
  hr:rst (Int.toNat 33290) b h l (S.take at_)
structure JD where
  j:Nat
  l:List UInt8
  b:Int
  h:Int
  hr:rst (Int.toNat 33290) b h l []
def hpR (w:Int) (ma mb:Nat) (l:List UInt8) (b h:Int):List Blk:= [.mk 97 [.int 0,.ptr 1 0 0 [],.nilptr,.ptr 2 0 0 [],.int (-1)],.mk 103 [.int w,.str (kyF w [107]),.str (ivF w [107]),.int (ma:Nat)],.mk 121 [.sl 3 0 0 [] (Int.toNat 33290) (Int.toNat 33290),.int 0,.int 0],.mk 5 [.arr8 (Int.toNat 33290) (List.replicate (Int.toNat 33290) 0)],
  .mk 97 [.int 0,.nilptr,.ptr 5 0 0 [],.ptr 6 0 0 [],.int (-1)],.mk 103 [.int w,.str (kyF w [107]),.str (ivF w [107]),.int (mb:Nat)],.mk 121 [.sl 7 0 0 [] (Int.toNat 33290) (Int.toNat 33290),.int b,.int h],.mk 5 [.arr8 (Int.toNat 33290) l]]
attribute [local irreducible] zaf exF kyF ivF y0 xo yw inL ncF lnz iA hA hN hK yt zan hO hP hR hT iK hdF zf nxM nxR zbh yj
set_option maxHeartbeats 8000000 in
theorem zmb (W:World) (which:Int) (a:Option Addr) (n c:Nat) (rows:List (List At)) (hn:rows.length=n) (hrows: ∀r∈rows,∃k,r= [.int k]) (part:Int):
    zql (z4q f7.ntmps z69 zs7 W [⟨3,a.getD ⟨0,0,none⟩,1,true,rows⟩]) pl7 (zji f7) f7.results.toList [.int which,.xsl a n c,.int part] [] (fun r _=>r= .bool true):=by
  have hu:(UInt64.ofInt which%UInt64.ofNat 3).toNat<3:=by rw [UInt64.toNat_mod];exact Nat.mod_lt _ (by decide)
  have hpw:(UInt64.ofInt which%UInt64.ofNat 3).toNat<9223372036854775808:=by omega
  have d2:decide (zkc 0 33290)=true:=by decide+kernel
  have bp:=Go.Sym.Ib.ibits_and (a:=part) (m:=4095) (by decide) (by decide)
  repeat ((conv=>whnf);first|refine zy ?_|refine zk ?_|refine zj ?_|refine zc ?_|refine zv (by first|exact d2) ?_|refine zr (by first|exact d2) ?_|refine zq (by first|exact d2) ?_)
  conv=>whnf
  generalize (UInt64.ofInt which%UInt64.ofNat 3).toNat=u at*
  have hsu:su (4865+(u:Int)):=by unfold su;omega
  have dsu:decide (su (4865+(u:Int)))=true:=decide_eq_true hsu
  generalize 4865+(u:Int)=w at*
  have hkl:=zuw w [107]
  have hivl:=zuz w [107]
  have hky: ∀m:Nat,m≤16→zrs w (kyF w [107]) (ivF w [107]) (m:Int):=fun m hm=>⟨hsu,hkl,hivl,by omega,by omega⟩
  have hr0:=zp4 (n:=Int.toNat 33290) (by decide)
  repeat ((conv=>whnf);first|refine zy ?_|refine zk ?_|refine zj ?_|refine zc ?_|refine zv (by first|exact dsu) ?_|refine zr (by first|exact dsu) ?_|refine zq (by first|exact dsu) ?_)
  conv=>whnf
  refine zx (RQ2 n) (fun q=>⟨[(1,.xsl a n c),(2,.int part),(8,.ptr 0 0 0 []),(9,.int 0),(10,.ptr 4 0 0 []),(11,.int 0),(12,.int (q.i:Nat))],hpR w q.i q.i q.l q.b q.h⟩) (fun q=>n-q.i) ⟨0,Nat.zero_le _,Nat.zero_le _,_,_,_,hr0⟩ [0,6,1,2,3,7,4,5] ?_ ?_
  ·exact zo
  ·intro q
   have hi:=q.hi
   have h16:=q.h16
   have hr:=q.hr
   by_cases hlast:q.i<n∧q.i<16
   ·obtain ⟨hin,hi16⟩:=hlast
    obtain ⟨r,hrw⟩: ∃r,rows[q.i]?=some r:=⟨rows[q.i]'(by omega),List.getElem?_eq_getElem (by omega)⟩
    obtain ⟨sz,rfl⟩:=hrows r (List.mem_of_getElem? hrw)
    have bs:=Go.Sym.Ib.ibits_and (a:=sz) (m:=8191) (by decide) (by decide)
    have hI:((q.i:Nat):Int).toNat=q.i:=Int.toNat_natCast _
    have hext:zir [⟨3,a.getD ⟨0,0,none⟩,1,true,rows⟩] ((a.getD ⟨0,0,none⟩).add (((q.i:Nat):Int).toNat*ty3.sz)) 3 (.int sz):=⟨_,.head _,q.i,_,rfl,by rw [hI];rfl,hrw,rfl⟩
    have hpk:=hky q.i h16
    refine za ?_
    refine zzo _ hext ?_
    refine za ?_
    refine yf fun d hd=>?_
    refine za ?_
    refine zzo _ hext ?_
    refine za ?_
    obtain ⟨zn,hzn⟩: ∃zn:Nat,(za5 BinOp.and sz 8191).toNat=zn:=⟨_,rfl⟩
    have hz1:zn≤8191:=by omega
    obtain ⟨T,hT⟩: ∃T,T=List.take zn (List.drop (off []) (List.replicate zn (0:UInt8)))++d:=⟨_,rfl⟩
    have hTl:T.length≤8193:=by rw [hT,List.length_append,List.length_take];omega
    rw [hzn,←hT]
    have hps:wOK (some ⟨w,kyF w [107],ivF w [107],(q.i:Nat)⟩)∧(0:Int)≤0∧(0:Int)≤16384∧T.length≤140737488351232:=⟨hpk,by decide,by decide,by omega⟩
    have dsl:decide (xe 23∧T.length≤16384)=true:=decide_eq_true ⟨by unfold xe;decide,by omega⟩
    repeat ((conv=>whnf);first|refine zy ?_|refine zk ?_|refine zj ?_|refine zc ?_|refine zv (by first|exact dsl|(rw [dsl];rfl)) ?_|refine zr (by first|exact dsl|(rw [dsl];rfl)) ?_|refine zq (by first|exact dsl|(rw [dsl];rfl)) ?_)
    conv=>whnf
    obtain ⟨S,hS⟩: ∃S,S=zbh 0 (some ⟨w,kyF w [107],ivF w [107],(q.i:Nat)⟩) 23 T:=⟨_,rfl⟩
    have hSs:S=yt 0 w (kyF w [107]) (ivF w [107]) (q.i:Nat) 23 T:=by rw [hS];unfold zbh;rfl
    have hSl:S.length=22+T.length:=by
      have e:=zgk (p:=0) (w:=w) (key:=kyF w [107]) (iv:=ivF w [107]) (m:=(q.i:Nat)) (kind:=23) (s:=T) (by omega) (by decide)
      rw [←hSs] at e
      have e2:inL 0 ((T.length:Nat):Int)=(T.length:Int)+1:=by unfold inL;rw [if_neg (by decide)]
      omega
    rw [←hS]
    refine zx (JQs S ⊕ JD) (fun z=>match z with
      | .inl s=>⟨[(1,.xsl a n c),(2,.int part),(8,.ptr 0 0 0 []),(9,.int 0),(10,.ptr 4 0 0 []),(11,.int 0),(12,.int (q.i:Nat)),(13,.str T),(14,.str S),(16,.int 0),(17,.int (s.at_:Nat)),(18,.int (s.j:Nat))],hpR w (q.i+1) q.i s.l s.b s.h⟩
      | .inr s=>⟨[(1,.xsl a n c),(2,.int part),(8,.ptr 0 0 0 []),(9,.int 0),(10,.ptr 4 0 0 []),(11,.int 0),(12,.int (q.i:Nat)),(13,.str T),(14,.str S),(16,.int 1),(17,.int (S.length:Nat)),(18,.int (s.j:Nat))],hpR w (q.i+1) (q.i+1) s.l s.b s.h⟩) (fun z=>match z with
      | .inl s=>1+S.length-s.at_
      | .inr _=>0) (.inl ⟨0,0,Nat.le_refl _,by omega,q.l,q.b,q.h,hr⟩) [0,1,2,3,4,5,6,7] ?_ ?_
    ·exact zo
    ·intro z
     rcases z with s|s
     ·have hj:=s.hj
      have ha:=s.ha
      have hrs:=s.hr
      obtain ⟨m,hm⟩: ∃m:Nat,(min (S.length:Int) ((s.at_:Int)+1+za5 BinOp.and part 4095)).toNat=m:=⟨_,rfl⟩
      have hma:s.at_<m∧m≤S.length:=by omega
      have hI2:((s.at_:Nat):Int).toNat=s.at_:=Int.toNat_natCast _
      obtain ⟨P,hP⟩: ∃P,P=List.take ((min (S.length:Int) ((s.at_:Int)+1+za5 BinOp.and part 4095)).toNat-((s.at_:Nat):Int).toNat) (List.drop ((s.at_:Nat):Int).toNat S):=⟨_,rfl⟩
      have hPl:P.length=m-s.at_:=by rw [hP,hI2,hm,List.length_take,List.length_drop];omega
      have hPS:S.take s.at_++P=S.take m:=by
        rw [hP,hI2,hm]
        have:S.take m=(S.take s.at_)++(S.drop s.at_).take (m-s.at_):=by rw [←List.take_append_drop s.at_ (S.take m),List.take_take,Nat.min_eq_left (by omega),List.drop_take]
        exact this.symm
      have hrb:=zx7 hrs
      have htl:(S.take s.at_).length=s.at_:=by rw [List.length_take];omega
      have hsl:((s.at_:Nat):Int).toNat≤(min (S.length:Int) ((s.at_:Int)+1+za5 BinOp.and part 4095)).toNat∧(min (S.length:Int) ((s.at_:Int)+1+za5 BinOp.and part 4095)).toNat≤S.length:=by omega
      have hpp2:yj (Int.toNat 33290) (Int.toNat 33290) (Int.toNat 33290) s.l s.b s.h∧P.length≤4611686018427387904:=⟨zf2 hrs,by omega⟩
      have hp1:yj (Int.toNat 33290) (Int.toNat 33290) (Int.toNat 33290) s.l s.b s.h∧(List.take ((min (S.length:Int) ((s.at_:Int)+1+za5 BinOp.and part 4095)).toNat-((s.at_:Nat):Int).toNat) (List.drop ((s.at_:Nat):Int).toNat S)).length≤4611686018427387904:=by rw [←hP];exact hpp2
      clear hpp2 d2 dsl dsu hky
      have da:decide ((s.at_:Int)<(S.length:Int))=true:=decide_eq_true (by omega)
      have dj:decide ((s.j:Int)<20000)=true:=decide_eq_true (by omega)
      conv=>whnf
      refine za ?_
      rw [←hP]
      refine yf fun l1 hl1=>?_
      have hr1:=zix hrs hl1
      have hk1:min ((P.length:Nat):Int) (((Int.toNat 33290:Nat):Int)-s.h)=(P.length:Int):=by omega
      rw [hk1,Int.toNat_natCast,List.take_of_length_le (Nat.le_refl _),hPS] at hr1
      rw [hk1]
      have hpn:yj (Int.toNat 33290) (Int.toNat 33290) (Int.toNat 33290) l1 s.b (s.h+(P.length:Int))∧wOK (some ⟨w,kyF w [107],ivF w [107],(q.i:Nat)⟩):=⟨zf2 hr1,hpk⟩
      clear da dj
      refine za ?_
      rw [z2k hr1]
      refine z1o ?_
      by_cases hmS:m<S.length
      ·have x0:=z07 (p:=0) (w:=w) (key:=kyF w [107]) (iv:=ivF w [107]) (m:=(q.i:Nat)) (kind:=23) (s:=T) (by omega) (by decide) (j:=m)
       rw [←hSs] at x0
       rw [x0 hmS]
       have dk:decide (((P.length:Nat):Int)=0)=false:=decide_eq_false (by omega)
       repeat ((conv=>whnf);first|refine zy ?_|refine zk ?_|refine zj ?_|refine zc ?_|refine zv (by first|exact dk|(rw [dk];rfl)) ?_|refine zr (by first|exact dk|(rw [dk];rfl)) ?_|refine zq (by first|exact dk|(rw [dk];rfl)) ?_)
       conv=>whnf
       refine ⟨.inl ⟨m,s.j+1,by omega,hmS,l1,s.b,s.h+(P.length:Int),hr1⟩,[0,1,2,3,4,5,6,7],by show 1+S.length-m<1+S.length-s.at_;omega,?_⟩
       repeat ((conv=>whnf);refine zc ?_)
       conv=>whnf
       exact zu (congrArg SV.int (show (s.at_:Int)+(P.length:Int)=((m:Nat):Int) by omega))
      ·have hmm:S.take m=yt 0 w (kyF w [107]) (ivF w [107]) (q.i:Nat) 23 T++ []:=by rw [List.append_nil,←hSs];exact List.take_of_length_le (by omega)
       obtain ⟨x1,x2,x3⟩:=zrg (p:=0) (w:=w) (key:=kyF w [107]) (iv:=ivF w [107]) (m:=(q.i:Nat)) (kind:=23) (s:=T) [] (by omega) (by decide) (.inr (.inr rfl))
       have x3':5+hN (yt 0 w (kyF w [107]) (ivF w [107]) (q.i:Nat) 23 T++ [])=(S.length:Int):=by rw [x3,←hSs]
       rw [hmm,x1,x2,x3']
       conv=>whnf
       refine yf fun l2 hl2=>?_
       have hmm2:m=S.length:=by omega
       have hr2:=zse hr1 (by have:=(zx7 hr1).1;rw [List.length_take] at this;omega) hl2
       have dk:decide (((P.length:Nat):Int)=0)=false:=decide_eq_false (by omega)
       repeat ((conv=>whnf);first|refine zy ?_|refine zk ?_|refine zj ?_|refine zc ?_|refine zv (by first|exact dk|(rw [dk];rfl)) ?_|refine zr (by first|exact dk|(rw [dk];rfl)) ?_|refine zq (by first|exact dk|(rw [dk];rfl)) ?_)
       conv=>whnf
       refine ⟨.inr ⟨s.j+1,l2,(s.b+(S.length:Int)).tmod ((Int.toNat 33290:Nat):Int),s.h+(P.length:Int)-(S.length:Int),hr2⟩,[0,1,2,3,4,5,6,7],by show 0<1+S.length-s.at_;omega,?_⟩
       repeat ((conv=>whnf);refine zc ?_)
       conv=>whnf
       exact zu (congrArg SV.int (show (s.at_:Int)+(P.length:Int)=((S.length:Nat):Int) by omega))
     ·have hh0:s.h=0:=(zx7 s.hr).1
      have da:decide (((S.length:Nat):Int)<((S.length:Nat):Int))=false:=decide_eq_false (by omega)
      have dh:decide (s.h=0)=true:=decide_eq_true hh0
      clear d2 dsl dsu hky
      conv=>whnf
      repeat ((conv=>whnf);first|refine zy ?_|refine zk ?_|refine zj ?_|refine zc ?_|refine zv (by first|exact da|(rw [da];rfl)|exact dh|(rw [dh];rfl)) ?_|refine zr (by first|exact da|(rw [da];rfl)|exact dh|(rw [dh];rfl)) ?_|refine zq (by first|exact da|(rw [da];rfl)|exact dh|(rw [dh];rfl)) ?_)
      conv=>whnf
      refine ⟨⟨q.i+1,by omega,by omega,s.l,s.b,s.h,s.hr⟩,[0,1,2,3,4,5,6,7],by show n-(q.i+1)<n-q.i;omega,?_⟩
      exact zo
   ·clear d2 dsu hky
    by_cases hin:q.i<n
    ·have di:decide ((q.i:Int)<16)=false:=decide_eq_false (by omega)
     repeat ((conv=>whnf);first|refine zy ?_|refine zk ?_|refine zj ?_|refine zc ?_|refine zv (by first|exact di|(rw [di];rfl)) ?_|refine zr (by first|exact di|(rw [di];rfl)) ?_|refine zq (by first|exact di|(rw [di];rfl)) ?_)
     conv=>whnf
     refine yu (hp':= []) [] rfl ?_
     conv=>whnf
     exact zu (congrArg SV.bool (decide_eq_true rfl))
    ·refine za ?_
     refine yu (hp':= []) [] rfl ?_
     conv=>whnf
     exact zu (congrArg SV.bool (decide_eq_true rfl))
theorem zkd (W:World) (which:Int) (_: -9223372036854775808≤which∧which≤9223372036854775807) (a:Option Addr) (n c:Nat) (rows:List (List At)) (hn:rows.length=n) (hb:n*8≤140737488351232) (has: ∀r∈rows,zhb [.i] r∧r.length=1) (part:Int) (_: -9223372036854775808≤part∧part≤9223372036854775807):
    zql (z4q f7.ntmps z69 zs7 W [⟨3,a.getD ⟨0,0,none⟩,1,true,rows⟩]) pl7 (zji f7) f7.results.toList [.int which,.xsl a n c,.int part] [] (fun r _=>r= .bool true):=
  zmb W which a n c rows hn (fun r hr=>zyd (has r hr).1) part
end Go.Sym.Z
