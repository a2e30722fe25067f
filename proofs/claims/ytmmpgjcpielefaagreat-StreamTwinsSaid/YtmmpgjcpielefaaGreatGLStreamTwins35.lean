/-
  Contracts of functions of the program, each said of symbolic values, and plain laws; no condition beyond each statement's own.
-/
import Derived.Test.YtmmpgjcpielefaaGreatGLStreamTwins34
set_option linter.unusedSimpArgs false
set_option linter.unusedVariables false
namespace Go.Sym.Z
open Go Go.Proofs.Tryz Go.Sym.Lp Go.Sym.Ring Go.Sym.Cha Go.Sym.Sha Go.Sym.Hk Go.Sym.Gcm
set_option maxRecDepth 100000
def pl9:List (Nat×List PStep):= []
def z6w:List (Nat×TyI):= [(3,ty3),(4,ty4),(5,ty5),(9,ty9),(48,zcp),(51,zco),(113,x4),(99,x3),(103,zck),(68,zgw),(70,zg0),(104,zcj),(74,zi4),(23,zjr),(97,zin),(56,zit),(121,zc3),(93,zhk),(43,zgz),(59,zlr),(66,zmw)]
theorem z5p: ∀t i,y3 z6w t=some i→yp prog t i:=(zc ty3_ok (zc zbm (zc zbe (zc ty9_ok (zc zak (zc zam (zc zai (zc za7 (zc zdq (zc zgq (zc zgn (zc zds (zc zqy (zc zp5 (zc zkm (zc zky (zc zfj (zc zim (zc zgo (zc z4w (zc z4l x1)))))))))))))))))))))
def ztw:List (Nat×Spec):= [(10,zwv),(20,zo2),(14,zqa),(22,zqg),(18,zho),(16,zkx),(24,zp2),(29,zvx),(12,zv0),(32,zph),(33,zp6),(34,zq6),(35,zqr),(30,zhz),(31,zkn),(39,zef),(28,zke)]
theorem zye: ∀f S,y3 ztw f=some S→zp prog f S:=zd z6n (zd z44 (zd z32 (zd z1e (zd zx5 (zd z3b (zd z42 (zd z05 (zd zzi (zd zu5 (zd zwj (zd zva (zd zvo (zd zxl (zd z28 (zd z57 (zd zzr zl))))))))))))))))
structure TS (A:Nat) (M:Int) where
  m:Int
  hm:0≤m∧m≤M
  held:List UInt8
  hl:held.length≤A
  f:Int
  hf:f= -1∨0≤f
  l:List UInt8
  b:Int
  h:Int
  hr:ym (Int.toNat 33290) (Int.toNat 33290) (Int.toNat 33290) l b h
  hs:f= -1→rst (Int.toNat 33290) b h l held
def TS.mono {A B:Nat} {M N:Int} (s:TS A M) (h1:A≤B) (h2:M≤N):TS B N:=⟨s.m,⟨s.hm.1,Int.le_trans s.hm.2 h2⟩,s.held,Nat.le_trans s.hl h1,s.f,s.hf,s.l,s.b,s.h,s.hr,s.hs⟩
structure SQ (n:Nat) where
  i:Nat
  hi:i≤n
  h8:i≤8
  all:List UInt8
  ha:all.length≤i*16406
structure TQ (L:Nat) where
  at_:Nat
  i:Nat
  hat:at_≤L
  hi:i≤3000
  s:TS at_ (12*(i:Nat))
structure UQ (A:Nat) (M:Int) where
  j:Nat
  hj:j≤12
  s:TS A (M+(j:Nat))
def kT (w:Int) (key iv:List UInt8) (m:Int):Blk:= .mk 103 [.int w,.str key,.str iv,.int m]
def hpT (w:Int) (key iv:List UInt8) (ma m:Int) (held:List UInt8) (f:Int) (l:List UInt8) (b h:Int):List Blk:= [.mk 74 [.int 7,.ptr 1 0 0 [],.ptr 2 0 0 [],.str held,.int f],kT w key iv ma,kT w key iv m,
  .mk 97 [.int 7,.ptr 4 0 0 [],.ptr 5 0 0 [],.ptr 6 0 0 [],.int f],kT w key iv ma,kT w key iv m,.mk 121 [.sl 7 0 0 [] (Int.toNat 33290) (Int.toNat 33290),.int b,.int h],.mk 5 [.arr8 (Int.toNat 33290) l]]
theorem zn2 {G:Prop} {α:Type} (F:St→(St→Prop)→Prop) (P:α→Prop) (Q:α→St→Prop) (main:(∀b,P b→ ∀st,Q b st→zdg 0 F st)→G) (key: ∀b,P b→ ∀st,Q b st→zdg 0 F st):G:=main key
def twI (a2:Option Addr) (n2 c2:Nat) (w:Int) (key iv:List UInt8) (ma:Int) (L:Nat) (b:List UInt8×List UInt8) (at_ i:Nat) {A:Nat} {M:Int} (s:TS A M):St:=
  ⟨[(4,.xsl a2 n2 c2),(12,.ptr 0 0 0 []),(13,.int 0),(14,.ptr 3 0 0 []),(15,.int 0),(23,.sl 8 0 0 [] L (L+b.2.length)),(25,.int (at_:Nat)),(26,.int (i:Nat))],hpT w key iv ma s.m s.held s.f s.l s.b s.h++ [.mk 5 [.arr8 (L+b.2.length) b.1]]⟩
def twU (a2:Option Addr) (n2 c2:Nat) (w:Int) (key iv:List UInt8) (ma:Int) (L:Nat) (b:List UInt8×List UInt8) (at_ i j:Nat) {A:Nat} {M:Int} (s:TS A M):St:=
  ⟨[(4,.xsl a2 n2 c2),(12,.ptr 0 0 0 []),(13,.int 0),(14,.ptr 3 0 0 []),(15,.int 0),(23,.sl 8 0 0 [] L (L+b.2.length)),(25,.int (at_:Nat)),(26,.int (i:Nat)),(28,.int (j:Nat))],hpT w key iv ma s.m s.held s.f s.l s.b s.h++ [.mk 5 [.arr8 (L+b.2.length) b.1]]⟩
attribute [local irreducible] zab exF kyF ivF yx xe yi inL ncF lnz iA hA hN hK zas zf3 hO hP hR hT iK hdF zk nxM nxR zb7 ym
set_option maxHeartbeats 16000000 in
theorem zmk (W:World) (which:Int) (secret:List UInt8) (hsec:secret.length≤140737488351232) (a:Option Addr) (n c:Nat) (rows:List (List At)) (hn:rows.length=n) (hrows: ∀r∈rows,∃s,r= [.str s]∧s.length≤140737488351232) (spoil:Int) (a2:Option Addr) (n2 c2:Nat) (rows2:List (List At)) (hn2:rows2.length=n2) (hrows2: ∀r∈rows2,∃k,r= [.int k]):
    zs5 (ya4 f9.ntmps z6w ztw W [⟨9,a.getD ⟨0,0,none⟩,1,true,rows⟩,⟨3,a2.getD ⟨0,0,none⟩,1,true,rows2⟩]) pl9 (zuj f9) f9.results.toList [.int which,.str secret,.xsl a n c,.int spoil,.xsl a2 n2 c2] [] (fun r _=>r= .bool true):=by
  have hu:(UInt64.ofInt which%UInt64.ofNat 3).toNat<3:=by rw [UInt64.toNat_mod];exact Nat.mod_lt _ (by decide)
  have hpw:(UInt64.ofInt which%UInt64.ofNat 3).toNat<9223372036854775808:=by omega
  have d2:decide (zu1 7 33290)=true:=by decide+kernel
  have d3:decide ((0:Int)≤7∧(7:Int)≤16384)=true:=by decide+kernel
  repeat ((conv=>whnf);first|refine zo ?_|refine zf ?_|refine zg ?_|refine zb ?_|refine zr (by first|exact d2|exact d3) ?_|refine zi (by first|exact d2|exact d3) ?_|refine zj (by first|exact d2|exact d3) ?_)
  conv=>whnf
  clear d2 d3
  generalize (UInt64.ofInt which%UInt64.ofNat 3).toNat=u at*
  have hsu:su (4865+(u:Int)):=by unfold su;omega
  have dsu:decide (su (4865+(u:Int)))=true:=decide_eq_true hsu
  generalize 4865+(u:Int)=w at*
  obtain ⟨key,hkey⟩: ∃key,key=kyF w secret:=⟨_,rfl⟩
  obtain ⟨iv,hiv⟩: ∃iv,iv=ivF w secret:=⟨_,rfl⟩
  have hkl:=z6a w secret
  have hivl:=z4e w secret
  rw [←hkey] at hkl
  rw [←hiv] at hivl
  have hky: ∀m:Int,0≤m∧m≤1000000000→zcu w key iv m:=fun m hm=>⟨hsu,hkl,hivl,hm.1,hm.2⟩
  have hr0:=zwh (n:=Int.toNat 33290) (by decide)
  repeat ((conv=>whnf);first|refine zo ?_|refine zf ?_|refine zg ?_|refine zb ?_|refine zr (by first|exact dsu) ?_|refine zi (by first|exact dsu) ?_|refine zj (by first|exact dsu) ?_)
  conv=>whnf
  clear dsu
  rw [←hkey,←hiv]
  refine zz (SQ n) (fun q=>⟨[(2,.xsl a n c),(3,.int spoil),(4,.xsl a2 n2 c2),(12,.ptr 0 0 0 []),(13,.int 0),(14,.ptr 3 0 0 []),(15,.int 0),(16,.str q.all),(17,.int (q.i:Nat))],hpT w key iv (q.i:Nat) 0 [] (-1) (List.replicate (Int.toNat 33290) 0) 0 0⟩) (fun q=>n-q.i) ⟨0,Nat.zero_le _,Nat.zero_le _,[],Nat.zero_le _⟩ [0,4,6,1,5,7,2,3] ?_ ?_
  ·exact zu
  ·intro q
   have hi:=q.hi
   have h8:=q.h8
   have hal:=q.ha
   have hpk:=hky (q.i:Nat) (by omega)
   by_cases hlast:q.i<n∧q.i<8
   ·obtain ⟨hin,hi8⟩:=hlast
    obtain ⟨r,hrw⟩: ∃r,rows[q.i]?=some r:=⟨rows[q.i]'(by omega),List.getElem?_eq_getElem (by omega)⟩
    obtain ⟨tx,rfl,htx⟩:=hrows r (List.mem_of_getElem? hrw)
    have hI:((q.i:Nat):Int).toNat=q.i:=Int.toNat_natCast _
    have hext:zgp [⟨9,a.getD ⟨0,0,none⟩,1,true,rows⟩,⟨3,a2.getD ⟨0,0,none⟩,1,true,rows2⟩] ((a.getD ⟨0,0,none⟩).add (((q.i:Nat):Int).toNat*ty9.sz)) 9 (.str tx):=⟨_,.head _,q.i,_,rfl,by rw [hI];rfl,hrw,rfl⟩
    obtain ⟨kd,hkd⟩: ∃kd,kd=21+((q.i:Nat):Int).tmod 3:=⟨_,rfl⟩
    have hkr:kd=21∨kd=22∨kd=23:=by
      have h1:0≤((q.i:Nat):Int).tmod 3:=Int.tmod_nonneg _ (by omega)
      have h2:((q.i:Nat):Int).tmod 3<3:=Int.tmod_lt_of_pos _ (by omega)
      omega
    obtain ⟨T,hT⟩: ∃T,T=(if 2000<tx.length then List.take (Int.toNat 2000) tx else tx):=⟨_,rfl⟩
    have hTl:T.length≤2000:=by
      rw [hT];split
      ·rw [List.length_take];exact Nat.min_le_left _ _
      ·omega
    have dsl:decide (yu kd∧T.length≤16384)=true:=decide_eq_true ⟨by unfold yu;omega,by omega⟩
    obtain ⟨S,hS⟩: ∃S,S=zas 7 w key iv (q.i:Nat) kd T:=⟨_,rfl⟩
    have hSO:zb7 7 (some ⟨w,key,iv,(q.i:Nat)⟩) kd T=S:=by rw [hS];unfold zb7;rfl
    have hSl:S.length≤16406:=by
      have e:=zxa (p:=7) (w:=w) (key:=key) (iv:=iv) (m:=(q.i:Nat)) (kind:=kd) (s:=T) (by omega) (by decide)
      have e2:=(zrp (p:=7) (kind:=kd) (s:=T) (by omega) (by decide)).2
      rw [←hS] at e
      omega
    have hps1:zcu w key iv (q.i:Nat)∧(0:Int)≤7∧(7:Int)≤16384∧T.length≤140737488351232:=⟨hpk,by decide,by decide,by omega⟩
    have hps2:wOK (some ⟨w,key,iv,(q.i:Nat)⟩)∧(0:Int)≤7∧(7:Int)≤16384∧T.length≤140737488351232:=hps1
    have hpa:q.all.length+S.length<9223372036854775808:=by omega
    have hSS:decide (S=S)=true:=decide_eq_true rfl
    by_cases h2:2000<tx.length
    case' pos=>have hTr:List.take (Int.toNat 2000) tx=T:=by rw [hT,if_pos h2]
    case' neg=>have hTr:tx=T:=by rw [hT,if_neg h2]
    all_goals (
      refine za ?_
      refine zzo _ hext ?_
      refine za ?_
      rw [←hkd,hTr]
      repeat ((conv=>whnf);first|refine zo ?_|refine zf ?_|refine zg ?_|refine zb ?_|refine zr (by first|exact dsl|(rw [dsl];rfl)) ?_|refine zi (by first|exact dsl|(rw [dsl];rfl)) ?_|refine zj (by first|exact dsl|(rw [dsl];rfl)) ?_)
      conv=>whnf
      rw [←hkd]
      repeat ((conv=>whnf);first|refine zo ?_|refine zf ?_|refine zg ?_|refine zb ?_|refine zr (by first|exact dsl|(rw [dsl];rfl)) ?_|refine zi (by first|exact dsl|(rw [dsl];rfl)) ?_|refine zj (by first|exact dsl|(rw [dsl];rfl)) ?_)
      conv=>whnf
      rw [hSO,←hS]
      repeat ((conv=>whnf);first|refine zo ?_|refine zf ?_|refine zg ?_|refine zb ?_|refine zr (by first|exact hSS|(rw [hSS];rfl)) ?_|refine zi (by first|exact hSS|(rw [hSS];rfl)) ?_|refine zj (by first|exact hSS|(rw [hSS];rfl)) ?_)
      conv=>whnf
      refine ⟨⟨q.i+1,by omega,by omega,q.all++S,by rw [List.length_append];omega⟩,[0,1,2,3,4,5,6,7],by show n-(q.i+1)<n-q.i;omega,?_⟩
      exact zu)
   ·have hex:(¬q.i<n)∨(q.i<n∧ ¬q.i<8):=by omega
    apply zn2 (α:=List UInt8×List UInt8) (P:=fun b=>b.1.length=q.all.length+b.2.length) (Q:=fun b st=>zde 0 [0,1,2,3,4,5,6,7,8] st.tm st.hp (twI a2 n2 c2 w key iv (q.i:Nat) q.all.length b 0 0 (TS.mk (A:=0) (M:=12*((0:Nat):Int)) 0 (by decide) [] (Nat.zero_le _) (-1) (.inl rfl) _ _ _ (zhm hr0) (fun _=>hr0))).tm (twI a2 n2 c2 w key iv (q.i:Nat) q.all.length b 0 0 (TS.mk (A:=0) (M:=12*((0:Nat):Int)) 0 (by decide) [] (Nat.zero_le _) (-1) (.inl rfl) _ _ _ (zhm hr0) (fun _=>hr0))).hp True)
    ·intro zn2
     have hsp:(0<q.all.length∧zbg BinOp.and spoil 1=1)∨(0<q.all.length∧ ¬zbg BinOp.and spoil 1=1)∨ ¬0<q.all.length:=by omega
     rcases hex with hex|⟨hex,hex2⟩
     all_goals (
       refine za ?_
       refine yh fun tl=>?_
       rcases hsp with ⟨hs1,hs2⟩|⟨hs1,hs2⟩|hs1
       ·have hLu:(UInt64.ofInt (q.all.length:Int)).toNat=q.all.length:=by have:=zsq (q.all.length:Int);omega
        have hL0:(UInt64.ofInt (q.all.length:Int)).toNat≠0:=by omega
        have hkv:(UInt64.ofInt spoil/ UInt64.ofNat 2%UInt64.ofInt (q.all.length:Int)).toNat<q.all.length:=by rw [UInt64.toNat_mod,hLu];exact Nat.mod_lt _ hs1
        have hkv2:(UInt64.ofInt spoil/ UInt64.ofNat 2%UInt64.ofInt (q.all.length:Int)).toNat<9223372036854775808:=by omega
        refine za ?_
        refine zn2 ((q.all++tl).set (off (yb [] ((((UInt64.ofInt spoil/ UInt64.ofNat 2%UInt64.ofInt (q.all.length:Int)).toNat:Nat):Int)).toNat ty5.sz)) ((q.all++tl).getD (off (yb [] ((((UInt64.ofInt spoil/ UInt64.ofNat 2%UInt64.ofInt (q.all.length:Int)).toNat:Nat):Int)).toNat ty5.sz)) 0^^^UInt8.ofNat 4),tl) (by show (List.set _ _ _).length=_;rw [List.length_set,List.length_append]) _ ?_
        exact zu
       ·refine za ?_
        refine zn2 (q.all++tl,tl) (List.length_append) _ ?_
        exact zu
       ·have dz:decide ((q.all.length:Int)>0)=false:=decide_eq_false (by omega)
        repeat ((conv=>whnf);first|refine zo ?_|refine zf ?_|refine zg ?_|refine zb ?_|refine zr (by first|(rw [dz];rfl)) ?_|refine zi (by first|(rw [dz];rfl)) ?_|refine zj (by first|(rw [dz];rfl)) ?_)
        conv=>whnf
        refine zn2 (q.all++tl,tl) (List.length_append) _ ?_
        exact zu)
    ·intro b hBl st h0
     refine zz (TQ q.all.length) (fun t=>twI a2 n2 c2 w key iv (q.i:Nat) q.all.length b t.at_ t.i t.s) (fun t=>3000-t.i) ⟨0,0,Nat.zero_le _,Nat.zero_le _,TS.mk (A:=0) (M:=12*((0:Nat):Int)) 0 (by decide) [] (Nat.zero_le _) (-1) (.inl rfl) _ _ _ (zhm hr0) (fun _=>hr0)⟩ [0,1,2,3,4,5,6,7,8] h0 ?_
     intro t
     have hat:=t.hat
     have hti:=t.hi
     have hsm:=t.s.hm
     have hsl:=t.s.hl
     have hsr:=t.s.hr
     have hsr':=hsr
     by_cases hgo:t.at_<q.all.length∧t.i<3000
     ·obtain ⟨hg1,hg2⟩:=hgo
      have hI2:((t.i:Nat):Int).toNat=t.i:=Int.toNat_natCast _
      have hsO:=ze4 (q.all.length+b.2.length) ((t.at_:Nat):Int).toNat
      have hof:off (yb [] (slO (q.all.length+b.2.length) ((t.at_:Nat):Int).toNat) ty5.sz)≤t.at_:=by rw [zy];show 0+slO _ _*1≤_;omega
      apply zn2 (α:=Σ mm:Nat,TS (t.at_+mm) (12*((t.i:Nat):Int)+((0:Nat):Int))) (P:=fun x=>t.at_+x.1≤q.all.length) (Q:=fun x st=>zde 0 [0,1,2,3,4,5,6,7,8] st.tm st.hp (twU a2 n2 c2 w key iv (q.i:Nat) q.all.length b (t.at_+x.1) t.i 0 x.2).tm (twU a2 n2 c2 w key iv (q.i:Nat) q.all.length b (t.at_+x.1) t.i 0 x.2).hp True)
      ·intro share2
       have fin: ∀mm:Nat,mm≤q.all.length-t.at_→(List.take (((t.at_:Nat):Int)+(mm:Int)).toNat (List.drop 0 b.1)).length=(List.take (((t.at_:Nat):Int)+(mm:Int)).toNat (List.drop 0 b.1)).length:=fun _ _=>rfl
       clear fin
       by_cases hcut:t.i<n2
       case' pos=>
         obtain ⟨r2,hrw2⟩: ∃r,rows2[t.i]?=some r:=⟨rows2[t.i]'(by omega),List.getElem?_eq_getElem (by omega)⟩
         obtain ⟨kc,rfl⟩:=hrows2 r2 (List.mem_of_getElem? hrw2)
         have bc:=Go.Sym.Ib.ibits_and (a:=kc) (m:=511) (by decide) (by decide)
         have hext2:zgp [⟨9,a.getD ⟨0,0,none⟩,1,true,rows⟩,⟨3,a2.getD ⟨0,0,none⟩,1,true,rows2⟩] ((a2.getD ⟨0,0,none⟩).add (((t.i:Nat):Int).toNat*ty3.sz)) 3 (.int kc):=⟨_,.tail _ (.head _),t.i,_,rfl,by rw [hI2];rfl,hrw2,rfl⟩
         conv=>whnf
         refine za ?_
         refine zzo _ hext2 ?_
         refine za ?_
         obtain ⟨mm,hmm⟩: ∃mm:Nat,min ((q.all.length:Int)-(t.at_:Int)) (zbg BinOp.and kc 511)=(mm:Int):=⟨(min ((q.all.length:Int)-(t.at_:Int)) (zbg BinOp.and kc 511)).toNat,by omega⟩
         have hmL:t.at_+mm≤q.all.length:=by omega
         rw [hmm]
         clear hmm bc hext2 hrw2
       case' neg=>
         conv=>whnf
         refine za ?_
         obtain ⟨mm,hmm⟩: ∃mm:Nat,(q.all.length:Int)-(t.at_:Int)=(mm:Int):=⟨((q.all.length:Int)-(t.at_:Int)).toNat,by omega⟩
         have hmL:t.at_+mm≤q.all.length:=by omega
         rw [hmm]
         clear hmm
       all_goals (
         have hpb:off (yb [] (slO (q.all.length+b.2.length) ((t.at_:Nat):Int).toNat) ty5.sz)+((((t.at_:Nat):Int)+(mm:Int)).toNat-((t.at_:Nat):Int).toNat)≤b.1.length:=by omega
         obtain ⟨P,hP⟩: ∃P,P=List.take ((((t.at_:Nat):Int)+(mm:Int)).toNat-((t.at_:Nat):Int).toNat) (List.drop (off (yb [] (slO (q.all.length+b.2.length) ((t.at_:Nat):Int).toNat) ty5.sz)) b.1):=⟨_,rfl⟩
         have hPl:P.length=mm:=by rw [hP,List.length_take,List.length_drop];omega
         have hpc:t.s.held.length+P.length<9223372036854775808:=by omega
         have hpr:ym (Int.toNat 33290) (Int.toNat 33290) (Int.toNat 33290) t.s.l t.s.b t.s.h∧P.length≤4611686018427387904:=⟨hsr,by omega⟩
         unfold ym at hsr'
         refine za ?_
         rw [←hP]
         refine za ?_
         refine yh fun l1 hl1=>?_
         by_cases hk:(P.length:Int)≤((Int.toNat 33290:Nat):Int)-t.s.h
         ·have hk1:min ((P.length:Nat):Int) (((Int.toNat 33290:Nat):Int)-t.s.h)=(mm:Int):=by omega
          have hs1:t.s.f= -1→rst (Int.toNat 33290) t.s.b (t.s.h+(mm:Int)) l1 (t.s.held++P):=fun e=>by
            have:=zsi (t.s.hs e) hl1
            rw [hk1,Int.toNat_natCast,List.take_of_length_le (by omega)] at this
            exact this
          have hr1:ym (Int.toNat 33290) (Int.toNat 33290) (Int.toNat 33290) l1 t.s.b (t.s.h+(mm:Int)):=by
            have:=hl1.1
            unfold ym;omega
          rw [hk1]
          have dmm:decide ((mm:Int)=(mm:Int))=true:=decide_eq_true rfl
          repeat ((conv=>whnf);first|refine zo ?_|refine zf ?_|refine zg ?_|refine zb ?_|refine zr (by first|exact dmm|(rw [dmm];rfl)) ?_|refine zi (by first|exact dmm|(rw [dmm];rfl)) ?_|refine zj (by first|exact dmm|(rw [dmm];rfl)) ?_)
          conv=>whnf
          refine share2 ⟨mm,TS.mk (A:=t.at_+mm) (M:=12*((t.i:Nat):Int)+((0:Nat):Int)) t.s.m (by omega) (t.s.held++P) (by rw [List.length_append];omega) t.s.f t.s.hf l1 t.s.b (t.s.h+(mm:Int)) hr1 hs1⟩ hmL _ ?_
          exact zu
         ·have hk1:min ((P.length:Nat):Int) (((Int.toNat 33290:Nat):Int)-t.s.h)=((Int.toNat 33290:Nat):Int)-t.s.h:=by omega
          rw [hk1]
          have dmm:decide (((Int.toNat 33290:Nat):Int)-t.s.h=(mm:Int))=false:=decide_eq_false (by omega)
          repeat ((conv=>whnf);first|refine zo ?_|refine zf ?_|refine zg ?_|refine zb ?_|refine zr (by first|exact dmm|(rw [dmm];rfl)) ?_|refine zi (by first|exact dmm|(rw [dmm];rfl)) ?_|refine zj (by first|exact dmm|(rw [dmm];rfl)) ?_)
          conv=>whnf
          refine yv (hp':= []) [] rfl ?_
          conv=>whnf
          exact zx (congrArg SV.bool (decide_eq_true (by omega))))
      ·intro x hx st h0
       refine zz (UQ (t.at_+x.1) (12*((t.i:Nat):Int))) (fun y=>twU a2 n2 c2 w key iv (q.i:Nat) q.all.length b (t.at_+x.1) t.i y.j y.s) (fun y=>12-y.j) ⟨0,Nat.zero_le _,x.2⟩ [0,1,2,3,4,5,6,7,8] h0 ?_
       intro y
       have hyj:=y.hj
       have hm:=y.s.hm
       have hl:=y.s.hl
       have hf:=y.s.hf
       have hr:=y.s.hr
       have hr':=hr
       unfold ym at hr'
       have hpn:zcu w key iv y.s.m∧y.s.held.length<9223372036854775808:=⟨hky _ ⟨hm.1,by omega⟩,by omega⟩
       have hpw:ym (Int.toNat 33290) (Int.toNat 33290) (Int.toNat 33290) y.s.l y.s.b y.s.h∧wOK (some ⟨w,key,iv,y.s.m⟩):=⟨hr,hpn.1⟩
       by_cases hj:y.j<12
       ·by_cases hfm:y.s.f= -1
        ·have dfm:=decide_eq_true hfm
         have hrs:=y.s.hs hfm
         have hrh:=ybw hrs
         rcases zy7 (k:=⟨w,key,iv,y.s.m⟩) (held:=y.s.held) with ⟨ak,ad,e⟩|⟨ak,ad,e⟩|e|⟨aa,ha0,e⟩|⟨aa,ha0,e⟩
         ·conv=>whnf
          repeat ((conv=>whnf);first|refine zo ?_|refine zf ?_|refine zg ?_|refine zb ?_|refine zr (by first|exact dfm|(rw [dfm];rfl)) ?_|refine zi (by first|exact dfm|(rw [dfm];rfl)) ?_|refine zj (by first|exact dfm|(rw [dfm];rfl)) ?_)
          conv=>whnf
          refine zfv ?_
          rw [e]
          repeat ((conv=>whnf);first|refine zo ?_|refine zf ?_|refine zg ?_|refine zb ?_|refine zr (by first|exact dfm|(rw [dfm];rfl)) ?_|refine zi (by first|exact dfm|(rw [dfm];rfl)) ?_|refine zj (by first|exact dfm|(rw [dfm];rfl)) ?_)
          conv=>whnf
          rw [zol hrs]
          refine zfv ?_
          rw [e]
          conv=>whnf
          refine yh fun l' hl'=>?_
          have hk:=zvu e
          have hr2:=zrg hrs (by omega) hl'
          have hRl:=zz3 y.s.held
          have deq:(decide (ak=ak)&&(decide (ad=ad)&&true))=true:=by rw [decide_eq_true rfl,decide_eq_true rfl];rfl
          repeat ((conv=>whnf);first|refine zo ?_|refine zf ?_|refine zg ?_|refine zb ?_|refine zr (by first|(rw [deq];rfl)) ?_|refine zi (by first|(rw [deq];rfl)) ?_|refine zj (by first|(rw [deq];rfl)) ?_)
          conv=>whnf
          refine ⟨⟨y.j+1,by omega,TS.mk (A:=t.at_+x.1) (M:=12*((t.i:Nat):Int)+((y.j+1:Nat):Int)) (y.s.m) (by omega) (hR y.s.held) (by omega) (-1) (.inl rfl) (l') ((y.s.b+(5+hN y.s.held)).tmod ((Int.toNat 33290:Nat):Int)) (y.s.h-(5+hN y.s.held)) (zhm hr2) (fun _=>hr2)⟩,[0,1,2,3,4,5,6,7,8],by show 12-(y.j+1)<12-y.j;omega,?_⟩
          exact zu
         ·conv=>whnf
          repeat ((conv=>whnf);first|refine zo ?_|refine zf ?_|refine zg ?_|refine zb ?_|refine zr (by first|exact dfm|(rw [dfm];rfl)) ?_|refine zi (by first|exact dfm|(rw [dfm];rfl)) ?_|refine zj (by first|exact dfm|(rw [dfm];rfl)) ?_)
          conv=>whnf
          refine zfv ?_
          rw [e]
          repeat ((conv=>whnf);first|refine zo ?_|refine zf ?_|refine zg ?_|refine zb ?_|refine zr (by first|exact dfm|(rw [dfm];rfl)) ?_|refine zi (by first|exact dfm|(rw [dfm];rfl)) ?_|refine zj (by first|exact dfm|(rw [dfm];rfl)) ?_)
          conv=>whnf
          rw [zol hrs]
          refine zfv ?_
          rw [e]
          conv=>whnf
          refine yh fun l' hl'=>?_
          have hk:=zvu e
          have hr2:=zrg hrs (by omega) hl'
          have hRl:=zz3 y.s.held
          have deq:(decide (ak=ak)&&(decide (ad=ad)&&true))=true:=by rw [decide_eq_true rfl,decide_eq_true rfl];rfl
          repeat ((conv=>whnf);first|refine zo ?_|refine zf ?_|refine zg ?_|refine zb ?_|refine zr (by first|(rw [deq];rfl)) ?_|refine zi (by first|(rw [deq];rfl)) ?_|refine zj (by first|(rw [deq];rfl)) ?_)
          conv=>whnf
          refine ⟨⟨y.j+1,by omega,TS.mk (A:=t.at_+x.1) (M:=12*((t.i:Nat):Int)+((y.j+1:Nat):Int)) (y.s.m+1) (by omega) (hR y.s.held) (by omega) (-1) (.inl rfl) (l') ((y.s.b+(5+hN y.s.held)).tmod ((Int.toNat 33290:Nat):Int)) (y.s.h-(5+hN y.s.held)) (zhm hr2) (fun _=>hr2)⟩,[0,1,2,3,4,5,6,7,8],by show 12-(y.j+1)<12-y.j;omega,?_⟩
          exact zu
         ·conv=>whnf
          repeat ((conv=>whnf);first|refine zo ?_|refine zf ?_|refine zg ?_|refine zb ?_|refine zr (by first|exact dfm|(rw [dfm];rfl)) ?_|refine zi (by first|exact dfm|(rw [dfm];rfl)) ?_|refine zj (by first|exact dfm|(rw [dfm];rfl)) ?_)
          conv=>whnf
          refine zfv ?_
          rw [e]
          repeat ((conv=>whnf);first|refine zo ?_|refine zf ?_|refine zg ?_|refine zb ?_|refine zr (by first|exact dfm|(rw [dfm];rfl)) ?_|refine zi (by first|exact dfm|(rw [dfm];rfl)) ?_|refine zj (by first|exact dfm|(rw [dfm];rfl)) ?_)
          conv=>whnf
          rw [zol hrs]
          refine zfv ?_
          rw [e]
          conv=>whnf
          have deq:(decide ((0:Int)=0)&&(decide (([]:List UInt8)= [])&&true))=true:=by rw [decide_eq_true rfl,decide_eq_true rfl];rfl
          repeat ((conv=>whnf);first|refine zo ?_|refine zf ?_|refine zg ?_|refine zb ?_|refine zr (by first|(rw [deq];rfl)) ?_|refine zi (by first|(rw [deq];rfl)) ?_|refine zj (by first|(rw [deq];rfl)) ?_)
          conv=>whnf
          refine ⟨⟨t.at_+x.1,t.i+1,hx,by omega,TS.mk (A:=t.at_+x.1) (M:=12*((t.i+1:Nat):Int)) (y.s.m) (by omega) y.s.held hl (-1) (.inl rfl) (y.s.l) y.s.b y.s.h (hr) (fun _=>hrs)⟩,[0,1,2,3,4,5,6,7,8],by show 3000-(t.i+1)<3000-t.i;omega,?_⟩
          exact zu
         ·conv=>whnf
          repeat ((conv=>whnf);first|refine zo ?_|refine zf ?_|refine zg ?_|refine zb ?_|refine zr (by first|exact dfm|(rw [dfm];rfl)) ?_|refine zi (by first|exact dfm|(rw [dfm];rfl)) ?_|refine zj (by first|exact dfm|(rw [dfm];rfl)) ?_)
          conv=>whnf
          refine zfv ?_
          rw [e]
          repeat ((conv=>whnf);first|refine zo ?_|refine zf ?_|refine zg ?_|refine zb ?_|refine zr (by first|exact dfm|(rw [dfm];rfl)) ?_|refine zi (by first|exact dfm|(rw [dfm];rfl)) ?_|refine zj (by first|exact dfm|(rw [dfm];rfl)) ?_)
          conv=>whnf
          rw [zol hrs]
          refine zfv ?_
          rw [e]
          conv=>whnf
          have deq:(decide ((0:Int)=0)&&(decide (([]:List UInt8)= [])&&true))=true:=by rw [decide_eq_true rfl,decide_eq_true rfl];rfl
          have daa:decide (aa=aa)=true:=decide_eq_true rfl
          repeat ((conv=>whnf);first|refine zo ?_|refine zf ?_|refine zg ?_|refine zb ?_|refine zr (by first|(rw [deq];rfl)|(rw [daa];rfl)) ?_|refine zi (by first|(rw [deq];rfl)|(rw [daa];rfl)) ?_|refine zj (by first|(rw [deq];rfl)|(rw [daa];rfl)) ?_)
          conv=>whnf
          refine ⟨⟨t.at_+x.1,t.i+1,hx,by omega,TS.mk (A:=t.at_+x.1) (M:=12*((t.i+1:Nat):Int)) (y.s.m) (by omega) y.s.held hl (aa) (.inr ha0) (y.s.l) y.s.b y.s.h (hr) (fun h=>by omega)⟩,[0,1,2,3,4,5,6,7,8],by show 3000-(t.i+1)<3000-t.i;omega,?_⟩
          exact zu
         ·conv=>whnf
          repeat ((conv=>whnf);first|refine zo ?_|refine zf ?_|refine zg ?_|refine zb ?_|refine zr (by first|exact dfm|(rw [dfm];rfl)) ?_|refine zi (by first|exact dfm|(rw [dfm];rfl)) ?_|refine zj (by first|exact dfm|(rw [dfm];rfl)) ?_)
          conv=>whnf
          refine zfv ?_
          rw [e]
          repeat ((conv=>whnf);first|refine zo ?_|refine zf ?_|refine zg ?_|refine zb ?_|refine zr (by first|exact dfm|(rw [dfm];rfl)) ?_|refine zi (by first|exact dfm|(rw [dfm];rfl)) ?_|refine zj (by first|exact dfm|(rw [dfm];rfl)) ?_)
          conv=>whnf
          rw [zol hrs]
          refine zfv ?_
          rw [e]
          conv=>whnf
          refine yh fun l' hl'=>?_
          have deq:(decide ((0:Int)=0)&&(decide (([]:List UInt8)= [])&&true))=true:=by rw [decide_eq_true rfl,decide_eq_true rfl];rfl
          have daa:decide (aa=aa)=true:=decide_eq_true rfl
          repeat ((conv=>whnf);first|refine zo ?_|refine zf ?_|refine zg ?_|refine zb ?_|refine zr (by first|(rw [deq];rfl)|(rw [daa];rfl)) ?_|refine zi (by first|(rw [deq];rfl)|(rw [daa];rfl)) ?_|refine zj (by first|(rw [deq];rfl)|(rw [daa];rfl)) ?_)
          conv=>whnf
          refine ⟨⟨t.at_+x.1,t.i+1,hx,by omega,TS.mk (A:=t.at_+x.1) (M:=12*((t.i+1:Nat):Int)) (y.s.m+1) (by omega) y.s.held hl (aa) (.inr ha0) (l') y.s.b y.s.h (zhp hr hl') (fun h=>by omega)⟩,[0,1,2,3,4,5,6,7,8],by show 3000-(t.i+1)<3000-t.i;omega,?_⟩
          exact zu
        ·have dfm:=decide_eq_false hfm
         have deq:(decide ((0:Int)=0)&&(decide (([]:List UInt8)= [])&&true))=true:=by rw [decide_eq_true rfl,decide_eq_true rfl];rfl
         have daa:decide (y.s.f=y.s.f)=true:=decide_eq_true rfl
         conv=>whnf
         repeat ((conv=>whnf);first|refine zo ?_|refine zf ?_|refine zg ?_|refine zb ?_|refine zr (by first|exact dfm|(rw [dfm];rfl)|(rw [deq];rfl)|(rw [daa];rfl)) ?_|refine zi (by first|exact dfm|(rw [dfm];rfl)|(rw [deq];rfl)|(rw [daa];rfl)) ?_|refine zj (by first|exact dfm|(rw [dfm];rfl)|(rw [deq];rfl)|(rw [daa];rfl)) ?_)
         conv=>whnf
         refine ⟨⟨t.at_+x.1,t.i+1,hx,by omega,TS.mk (A:=t.at_+x.1) (M:=12*((t.i+1:Nat):Int)) (y.s.m) (by omega) y.s.held hl (y.s.f) hf (y.s.l) y.s.b y.s.h hr y.s.hs⟩,[0,1,2,3,4,5,6,7,8],by show 3000-(t.i+1)<3000-t.i;omega,?_⟩
         exact zu
       ·have hj12:y.j=12:=by omega
        conv=>whnf
        refine za ?_
        refine ⟨⟨t.at_+x.1,t.i+1,hx,by omega,TS.mk (A:=t.at_+x.1) (M:=12*((t.i+1:Nat):Int)) (y.s.m) (by omega) y.s.held hl (y.s.f) hf (y.s.l) y.s.b y.s.h hr y.s.hs⟩,[0,1,2,3,4,5,6,7,8],by show 3000-(t.i+1)<3000-t.i;omega,?_⟩
        exact zu
     ·have hg:(¬t.at_<q.all.length)∨(t.at_<q.all.length∧ ¬t.i<3000):=by omega
      rcases hg with hg|⟨hg,hg2⟩
      ·conv=>whnf
       refine za ?_
       refine yv (hp':= []) [] rfl ?_
       conv=>whnf
       exact zx (congrArg SV.bool (decide_eq_true rfl))
      ·have dti:decide (((t.i:Nat):Int)<3000)=false:=decide_eq_false (by omega)
       conv=>whnf
       repeat ((conv=>whnf);first|refine zo ?_|refine zf ?_|refine zg ?_|refine zb ?_|refine zr (by first|exact dti|(rw [dti];rfl)) ?_|refine zi (by first|exact dti|(rw [dti];rfl)) ?_|refine zj (by first|exact dti|(rw [dti];rfl)) ?_)
       conv=>whnf
       refine yv (hp':= []) [] rfl ?_
       conv=>whnf
       exact zx (congrArg SV.bool (decide_eq_true rfl))
theorem z2e {r:List At} (h:zec [.s] r): ∃s,r= [.str s]∧s.length≤140737488351232:=by
  match r,h with
  | [.str s],h=>exact ⟨s,rfl,h.1⟩
theorem z09 {r:List At} (h:zec [.i] r): ∃k,r= [.int k]:=by
  match r,h with
  | [.int k],_=>exact ⟨k,rfl⟩
theorem zkd (W:World) (which:Int) (_: -9223372036854775808≤which∧which≤9223372036854775807) (secret:List UInt8) (hsec:secret.length≤140737488351232) (a:Option Addr) (n c:Nat) (rows:List (List At)) (hn:rows.length=n) (hb:n*16≤140737488351232) (has: ∀r∈rows,zec [.s] r∧r.length=1) (spoil:Int) (_: -9223372036854775808≤spoil∧spoil≤9223372036854775807) (a2:Option Addr) (n2 c2:Nat) (rows2:List (List At)) (hn2:rows2.length=n2) (hb2:n2*8≤140737488351232) (has2: ∀r∈rows2,zec [.i] r∧r.length=1):
    zs5 (ya4 f9.ntmps z6w ztw W [⟨9,a.getD ⟨0,0,none⟩,1,true,rows⟩,⟨3,a2.getD ⟨0,0,none⟩,1,true,rows2⟩]) pl9 (zuj f9) f9.results.toList [.int which,.str secret,.xsl a n c,.int spoil,.xsl a2 n2 c2] [] (fun r _=>r= .bool true):=
  zmk W which secret hsec a n c rows hn (fun r hr=>z2e (has r hr).1) spoil a2 n2 c2 rows2 hn2 (fun r hr=>z09 (has2 r hr).1)
end Go.Sym.Z
