/-
  Contracts of functions of the program, each said of symbolic values, and plain laws; no condition beyond each statement's own.
-/
import Derived.Test.YtmmpgjcpielefaaG15
set_option linter.unusedSimpArgs false
set_option linter.unusedVariables false
namespace Go.Sym.A
open Go Go.Proofs.Try Go.Sym.Lp Go.Sym.Cha Go.Sym.Sha Go.Sym.Hk Go.Sym.Gcm Go.Sym.Aes
set_option maxRecDepth 100000
def z52:List (Nat×List PStep):= [(9,[⟨0,[]⟩,⟨1,[0]⟩,⟨2,[]⟩,⟨3,[]⟩,⟨4,[]⟩,⟨5,[]⟩,⟨6,[0,1,2,3,4,5]⟩,⟨7,[0,1,2,3,4,5,6]⟩,⟨8,[0,1,2,3,4,5]⟩,⟨9,[0,1,2,3,4,5]⟩,⟨10,[]⟩,⟨11,[0,1,2,3,4,5,6,7,8,9,10]⟩,⟨12,[]⟩]),(13,[⟨0,[]⟩,⟨1,[]⟩,⟨2,[]⟩,⟨3,[]⟩,⟨4,[]⟩,⟨5,[]⟩,⟨6,[4,5]⟩,⟨7,[4,5]⟩,⟨8,[4,5]⟩,⟨9,[4,5]⟩,⟨10,[]⟩,⟨11,[]⟩,⟨12,[]⟩,⟨13,[]⟩,⟨14,[]⟩,⟨15,[13,14]⟩,⟨16,[13,14]⟩,⟨17,[]⟩,⟨18,[]⟩]),(16,[⟨0,[]⟩,⟨1,[0]⟩,⟨2,[0]⟩,⟨3,[]⟩,⟨4,[0,1,2,3]⟩,⟨5,[0,1,2,3]⟩,⟨6,[0,1,2,3]⟩,⟨7,[0,1,2,3,4,5,6]⟩,⟨8,[0,1,2,3,4,5,6]⟩,⟨9,[0,1,2,3]⟩,⟨10,[0,1,2,3]⟩,⟨11,[]⟩,⟨12,[0,1,2,3,4,5,6,7,8,9,10,11]⟩,⟨13,[0,1,2,3,4,5,6,7,8,9,10,11]⟩,⟨14,[]⟩,⟨15,[]⟩]),(22,[⟨0,[]⟩,⟨1,[]⟩,⟨2,[]⟩,⟨3,[]⟩,⟨4,[]⟩,⟨5,[]⟩,⟨6,[]⟩,⟨7,[]⟩,⟨8,[7]⟩,⟨9,[7,8]⟩,⟨10,[7]⟩,⟨11,[7]⟩,⟨12,[]⟩,⟨13,[]⟩])]
def zr3:List (Nat×TyI):= [(3,ty3),(4,ty4),(5,ty5),(9,ty9),(34,zdh),(35,zdd),(93,zb7),(91,x4),(130,zdp),(82,zh7),(84,zid),(134,zdu),(88,zh9),(43,ziq),(50,zec),(60,zkp),(58,zma),(59,zkr)]
theorem zvu: ∀t i,yw zr3 t=some i→yp prog t i:=(zc ty3_ok (zc zc3 (zc zcz (zc ty9_ok (zc zbh (zc zbl (zc zcx (zc zcy (zc zlk (zc zo7 (zc zo1 (zc zkb (zc zod (zc znu (zc zpw (zc z11 (zc z1n (zc z3c zao))))))))))))))))))
def enC (v:Int) (x:Int×List UInt8):List UInt8:= [UInt8.ofInt x.1,UInt8.ofInt (v/ 2^8),UInt8.ofInt v,UInt8.ofInt ((x.2.length:Int)/ 2^8),UInt8.ofInt (x.2.length:Int)]++x.2
def enR (v:Int):List (Int×List UInt8)→List UInt8
  | []=> []
  |x ::t=>enR v t++enC v x
theorem z3i (v:Int):enR v []= []:=rfl
theorem zra {v:Int} {x:Int×List UInt8} {t:List (Int×List UInt8)}:enR v (x ::t)=enR v t++enC v x:=rfl
theorem zp4 (v kk:Int) (d A:List UInt8):A++List.take (Int.toNat 1) (hdF kk d.length++d)++List.take 2 (List.drop (off []) (((List.replicate 2 0).set (off [(0,ty5.sz)]) (UInt8.ofInt (v/ 2^(UInt64.ofNat 8).toNat))).set (off [(1,ty5.sz)]) (UInt8.ofInt v)))++List.drop (Int.toNat 3) (hdF kk d.length++d)=A++enC v (kk,d):=by
  show A++ [UInt8.ofInt kk]++ [UInt8.ofInt (v/ 2^8),UInt8.ofInt v]++([UInt8.ofInt ((d.length:Int)/ 2^8),UInt8.ofInt (d.length:Int)]++d)=A++([UInt8.ofInt kk,UInt8.ofInt (v/ 2^8),UInt8.ofInt v,UInt8.ofInt ((d.length:Int)/ 2^8),UInt8.ofInt (d.length:Int)]++d)
  simp
theorem zps (v:Int) (x:Int×List UInt8):(enC v x).length=5+x.2.length:=by unfold enC;simp;omega
theorem zjw {v:Int}: ∀{rs:List (Int×List UInt8)},(∀x∈rs,x.2.length≤3000)→(enR v rs).length≤3005*rs.length
  | [],_=>Nat.le_refl _
  |x ::t,h=>by
   have h1:=zjw (v:=v) fun y hy=>h y (List.mem_cons_of_mem _ hy)
   have h2:=h x (List.mem_cons_self ..)
   show (enR v t++enC v x).length≤3005*(t.length+1)
   rw [List.length_append,zps];omega
structure CS (n n2:Nat) where
  rs:List (Int×List UInt8)
  h1:rs.length≤n
  h2:rs.length≤n2
  h8:rs.length≤8
  c:Nat
  f:Nat→List At
  hc:rs.length≤c
  hf: ∀i,i<c→(f i).length=2
  hv: ∀j x,rs.reverse[j]?=some x→f j= [.int x.1,.str x.2]
  hk: ∀x∈rs,(20≤x.1∧x.1≤23)∧x.2.length≤3000
def enF (v:Int):List (Int×List UInt8)→List UInt8
  | []=> []
  |x ::t=>enC v x++enF v t
theorem zvb (v:Int) (b:List (Int×List UInt8)): ∀a,enF v (a++b)=enF v a++enF v b
  | []=>rfl
  |x ::t=>by show enC v x++enF v (t++b)=enC v x++enF v t++_;rw [zvb v b t,List.append_assoc]
theorem z3e (v:Int): ∀rs,enR v rs=enF v rs.reverse
  | []=>rfl
  |x ::t=>by rw [zra,z3e v t,List.reverse_cons,zvb];show _=_++(enC v x++ []);rw [List.append_nil]
theorem z7g {v:Int} {x:Int×List UInt8} {t:List (Int×List UInt8)}:enF v (x ::t)=enC v x++enF v t:=rfl
theorem zu4 {v:Int}: ∀{rs:List (Int×List UInt8)},(∀x∈rs,x.2.length≤3000)→(enF v rs).length≤3005*rs.length
  | [],_=>Nat.le_refl _
  |x ::t,h=>by
   have h1:=zu4 (v:=v) fun y hy=>h y (List.mem_cons_of_mem _ hy)
   have h2:=h x (List.mem_cons_self ..)
   show (enC v x++enF v t).length≤3005*(t.length+1)
   rw [List.length_append,zps];omega
theorem z7f {v:Int} {x:Int×List UInt8} (X:List UInt8) (h:0≤x.1∧x.1≤255):hK (enC v x++X)=x.1:=by
  have e:hK (enC v x++X)=((UInt8.ofInt x.1).toNat:Int):=rfl
  rw [e,zd6 h]
theorem zw1 {v:Int} {x:Int×List UInt8} (X:List UInt8) (h:x.2.length≤65535):hN (enC v x++X)=(x.2.length:Int):=by
  have e:hN (enC v x++X)=256*((UInt8.ofInt ((x.2.length:Int)/ 2^8)).toNat:Int)+((UInt8.ofInt (x.2.length:Int)).toNat:Int):=rfl
  rw [e,zcs,zcs]
  have:(2:Int)^8=256:=rfl
  rw [this];omega
theorem z3f (v:Int) (x:Int×List UInt8) (X:List UInt8):(enC v x++X).drop 5=x.2++X:=rfl
theorem z6m {v:Int} {x:Int×List UInt8} (X:List UInt8) (h:x.2.length≤65535):hT (enC v x++X)=x.2:=by
  unfold hT;rw [zw1 X h,z3f,Int.toNat_natCast];exact List.take_left' rfl
theorem z6f {v:Int} {x:Int×List UInt8} (X:List UInt8) (h:x.2.length≤65535):hR (enC v x++X)=X:=by
  unfold hR;rw [zw1 X h,Int.toNat_natCast,←List.drop_drop,z3f];exact List.drop_left' rfl
theorem zg6 {α:Type} {x:α} {t:List α} {j:Nat} {y:α} (h:(x ::t).reverse[j]?=some y):(j<t.length∧t.reverse[j]?=some y)∨(j=t.length∧y=x):=by
  rw [List.reverse_cons] at h
  by_cases hj:j<t.length
  ·rw [List.getElem?_append_left (by rw [List.length_reverse];exact hj)] at h;exact .inl ⟨hj,h⟩
  ·rw [List.getElem?_append_right (by rw [List.length_reverse];omega),List.length_reverse] at h
   have:j-t.length=0:=by
     rcases Nat.eq_zero_or_pos (j-t.length) with e|e
     ·exact e
     ·rw [List.getElem?_eq_none (by simp;omega)] at h;cases h
   rw [this] at h;cases h;exact .inr ⟨by omega,rfl⟩
attribute [local irreducible] zb8 exF kyF ivF xl zap yv inL ncF lnz iA hA hN hK zy zaq hO hP hR hT iK z7 hdF enC enR enF
set_option maxHeartbeats 4000000 in
theorem zqq (W:World) (a:Option Addr) (n c:Nat) (rows:List (List At)) (hn:rows.length=n) (hb:n*8≤140737488351232) (hrows: ∀r∈rows,∃k,r= [.int k])
    (a2:Option Addr) (n2 c2:Nat) (rows2:List (List At)) (hn2:rows2.length=n2) (hb2:n2*16≤140737488351232) (hrows2: ∀r∈rows2,∃s,r= [.str s]∧s.length≤140737488351232) (version:Int):
    zil (zq6 f10.ntmps zr3 zes W [⟨3,a.getD ⟨0,0,none⟩,1,true,rows⟩,⟨9,a2.getD ⟨0,0,none⟩,1,true,rows2⟩]) z52 (zbz f10) f10.results.toList [.xsl a n c,.xsl a2 n2 c2,.int version] [] (fun r _=>r= .bool true):=by
  refine wk ?_
  refine zt (CS n n2) (fun s=>match s.rs with
      | []=>⟨[(0,.xsl a n c),(1,.xsl a2 n2 c2),(2,.int version),(7,.ptr 0 0 0 []),(8,.int 0),(9,.str []),(10,.nilsl),(11,.int 0)],[.mk 88 [.int 9,.nilptr,.nilptr,.str [],.int (-1)]]⟩
      |x ::t=>⟨[(0,.xsl a n c),(1,.xsl a2 n2 c2),(2,.int version),(7,.ptr 0 0 0 []),(8,.int 0),(9,.str (enR version (x ::t))),(10,.sl 1 0 0 [] (t.length+1) s.c),(11,.int ((t.length:Nat)+1))],[.mk 88 [.int 9,.nilptr,.nilptr,.str [],.int (-1)],.mk 50 [.tab s.c 2 s.f]]⟩)
    (fun s=>8-s.rs.length) ⟨[],Nat.zero_le _,Nat.zero_le _,Nat.zero_le _,0,fun _=> [],Nat.zero_le _,fun i h=>absurd h (Nat.not_lt_zero _),fun j x h=>by simp at h,fun x h=>by cases h⟩ [0] ?_ ?_
  ·repeat ((conv=>whnf);refine za ?_)
   exact trivial
  ·intro s
   obtain ⟨rs,h1,h2,h8,cc,f,hc,hf,hv,hk⟩:=s
   cases rs with
   |nil=>
    by_cases hz:0<n∧0<n2
    ·obtain ⟨r,hr⟩: ∃r,rows[0]?=some r:=⟨rows[0]'(by omega),List.getElem?_eq_getElem (by omega)⟩
     obtain ⟨k,rfl⟩:=hrows r (List.mem_of_getElem? hr)
     obtain ⟨r2,hr2⟩: ∃r,rows2[0]?=some r:=⟨rows2[0]'(by omega),List.getElem?_eq_getElem (by omega)⟩
     obtain ⟨u,rfl,ht⟩:=hrows2 r2 (List.mem_of_getElem? hr2)
     have bk:=Go.Sym.Ib.ibits_and (a:=k) (m:=3) (by decide) (by decide)
     have hI:Int.toNat 0=0:=by omega
     have e1:zcv [⟨3,a.getD ⟨0,0,none⟩,1,true,rows⟩,⟨9,a2.getD ⟨0,0,none⟩,1,true,rows2⟩] ((a.getD ⟨0,0,none⟩).add (Int.toNat 0*ty3.sz)) 3 (.int k):=⟨_,.head _,0,_,rfl,by rw [hI];rfl,hr,rfl⟩
     have e2:zcv [⟨3,a.getD ⟨0,0,none⟩,1,true,rows⟩,⟨9,a2.getD ⟨0,0,none⟩,1,true,rows2⟩] ((a2.getD ⟨0,0,none⟩).add (Int.toNat 0*ty9.sz)) 9 (.str u):=⟨_,.tail _ (.head _),0,_,rfl,by rw [hI];rfl,hr2,rfl⟩
     refine wk ?_
     refine zqn (.int k) e1 ?_
     refine wk ?_
     refine zqn (.str u) e2 ?_
     by_cases h3:3000<u.length
     ·refine wk ?_
      have hdl:(List.take (Int.toNat 3000) u).length≤3000:=by rw [List.length_take];exact Nat.min_le_left _ _
      generalize List.take (Int.toNat 3000) u=d at*
      have d1:decide (zw (20+ya .and k 3)∧d.length≤16384)=true:=decide_eq_true ⟨by unfold zw;omega,by omega⟩
      have hHl:=zay (20+ya .and k 3) (d.length:Int)
      have d2:(!decide (List.drop (Int.toNat 5) (hdF (20+ya .and k 3) (d.length:Int)++d)=d))=false:=by
        have e:List.drop (Int.toNat 5) (hdF (20+ya .and k 3) (d.length:Int)++d)=d:=List.drop_left' hHl
        rw [decide_eq_true e];rfl
      have p1:0<1∧ [At.int (20+ya .and k 3),At.str d].length= [At.str []].length+1:=⟨by decide,rfl⟩
      refine wk ?_
      refine yq fun tl=>?_
      refine wk ?_
      have q1: ∀i,i<1+tl.t→((fun i=>if i<1 then za3 (fun _=> [At.int 0,At.str []]) 0 [At.int (20+ya .and k 3),At.str d] (0+i) else tl.f (i-1)) i).length=2:=fun i hi=>by
       by_cases g1:i<1
       ·show (if i<_ then _ else _:List At).length=2;rw [if_pos g1,show 0+i=0 by omega];rfl
       ·show (if i<_ then _ else _:List At).length=2;rw [if_neg g1];exact tl.h _ (by omega)
      have q2: ∀(j:Nat) (y:Int×List UInt8),([(20+ya .and k 3,d)]).reverse[j]?=some y→(fun i=>if i<1 then za3 (fun _=> [At.int 0,At.str []]) 0 [At.int (20+ya .and k 3),At.str d] (0+i) else tl.f (i-1)) j= [At.int y.1,At.str y.2]:=fun j y hj=>by
       rcases zg6 hj with ⟨g,_⟩|⟨g,rfl⟩
       ·exact absurd g (Nat.not_lt_zero _)
       ·rw [g];rfl
      have q3: ∀y∈ [(20+ya .and k 3,d)],(20≤y.1∧y.1≤23)∧y.2.length≤3000:=fun y hy=>by
       rcases List.mem_cons.1 hy with rfl|hy
       ·exact ⟨by omega,hdl⟩
       ·cases hy
      refine ⟨⟨[(20+ya .and k 3,d)],by simp only [List.length_cons,List.length_nil] at *;omega,by simp only [List.length_cons,List.length_nil] at *;omega,by simp only [List.length_cons,List.length_nil] at *;omega,1+tl.t,fun i=>if i<1 then za3 (fun _=> [At.int 0,At.str []]) 0 [At.int (20+ya .and k 3),At.str d] (0+i) else tl.f (i-1),by simp only [List.length_cons,List.length_nil];omega,q1,q2,q3⟩,[0,3],by simp only [List.length_cons,List.length_nil] at *;omega,?_⟩
      repeat ((conv=>whnf);refine za ?_)
      conv=>whnf
      refine zh (congrArg SV.str ?he) ?_
      case he=>rw [zra,z3i];exact zp4 version (20+ya .and k 3) d _
      repeat ((conv=>whnf);refine za ?_)
      exact trivial
     ·refine wk ?_
      have hdl:u.length≤3000:=by omega
      generalize u=d at*
      have d1:decide (zw (20+ya .and k 3)∧d.length≤16384)=true:=decide_eq_true ⟨by unfold zw;omega,by omega⟩
      have hHl:=zay (20+ya .and k 3) (d.length:Int)
      have d2:(!decide (List.drop (Int.toNat 5) (hdF (20+ya .and k 3) (d.length:Int)++d)=d))=false:=by
        have e:List.drop (Int.toNat 5) (hdF (20+ya .and k 3) (d.length:Int)++d)=d:=List.drop_left' hHl
        rw [decide_eq_true e];rfl
      have p1:0<1∧ [At.int (20+ya .and k 3),At.str d].length= [At.str []].length+1:=⟨by decide,rfl⟩
      refine wk ?_
      refine yq fun tl=>?_
      refine wk ?_
      have q1: ∀i,i<1+tl.t→((fun i=>if i<1 then za3 (fun _=> [At.int 0,At.str []]) 0 [At.int (20+ya .and k 3),At.str d] (0+i) else tl.f (i-1)) i).length=2:=fun i hi=>by
       by_cases g1:i<1
       ·show (if i<_ then _ else _:List At).length=2;rw [if_pos g1,show 0+i=0 by omega];rfl
       ·show (if i<_ then _ else _:List At).length=2;rw [if_neg g1];exact tl.h _ (by omega)
      have q2: ∀(j:Nat) (y:Int×List UInt8),([(20+ya .and k 3,d)]).reverse[j]?=some y→(fun i=>if i<1 then za3 (fun _=> [At.int 0,At.str []]) 0 [At.int (20+ya .and k 3),At.str d] (0+i) else tl.f (i-1)) j= [At.int y.1,At.str y.2]:=fun j y hj=>by
       rcases zg6 hj with ⟨g,_⟩|⟨g,rfl⟩
       ·exact absurd g (Nat.not_lt_zero _)
       ·rw [g];rfl
      have q3: ∀y∈ [(20+ya .and k 3,d)],(20≤y.1∧y.1≤23)∧y.2.length≤3000:=fun y hy=>by
       rcases List.mem_cons.1 hy with rfl|hy
       ·exact ⟨by omega,hdl⟩
       ·cases hy
      refine ⟨⟨[(20+ya .and k 3,d)],by simp only [List.length_cons,List.length_nil] at *;omega,by simp only [List.length_cons,List.length_nil] at *;omega,by simp only [List.length_cons,List.length_nil] at *;omega,1+tl.t,fun i=>if i<1 then za3 (fun _=> [At.int 0,At.str []]) 0 [At.int (20+ya .and k 3),At.str d] (0+i) else tl.f (i-1),by simp only [List.length_cons,List.length_nil];omega,q1,q2,q3⟩,[0,3],by simp only [List.length_cons,List.length_nil] at *;omega,?_⟩
      repeat ((conv=>whnf);refine za ?_)
      conv=>whnf
      refine zh (congrArg SV.str ?he) ?_
      case he=>rw [zra,z3i];exact zp4 version (20+ya .and k 3) d _
      repeat ((conv=>whnf);refine za ?_)
      exact trivial
    ·by_cases ha:0<n<;>by_cases hb:0<n2
     ·exact absurd ⟨ha,hb⟩ hz
     all_goals
       refine wk ?_
       refine zt (Ix 0) (fun _=>⟨[(0,.xsl a n c),(1,.xsl a2 n2 c2),(2,.int version),(7,.ptr 0 0 0 []),(8,.int 0),(10,.nilsl),(15,.int 0)],[.mk 88 [.int 9,.nilptr,.nilptr,.str [],.int (-1)]]⟩) (fun _=>0) ⟨0,Nat.zero_le _⟩ [0] ?_ ?_
       ·repeat ((conv=>whnf);refine za ?_)
        exact trivial
       ·intro _
        refine wk ?_
        exact yl (hp':= []) [] rfl (by
          repeat ((conv=>whnf);refine za ?_)
          exact trivial)
   |cons x t=>
    have h8e:=h8
    have h1e:=h1
    have h2e:=h2
    simp only [List.length_cons] at h8e h1e h2e
    by_cases hz:(t.length+1)<n∧(t.length+1)<n2∧t.length+1<8
    ·obtain ⟨r,hr⟩: ∃r,rows[(t.length+1)]?=some r:=⟨rows[(t.length+1)]'(by omega),List.getElem?_eq_getElem (by omega)⟩
     obtain ⟨k,rfl⟩:=hrows r (List.mem_of_getElem? hr)
     obtain ⟨r2,hr2⟩: ∃r,rows2[(t.length+1)]?=some r:=⟨rows2[(t.length+1)]'(by omega),List.getElem?_eq_getElem (by omega)⟩
     obtain ⟨u,rfl,ht⟩:=hrows2 r2 (List.mem_of_getElem? hr2)
     have bk:=Go.Sym.Ib.ibits_and (a:=k) (m:=3) (by decide) (by decide)
     have hI:(((t.length:Nat)+1:Int)).toNat=(t.length+1):=by omega
     have e1:zcv [⟨3,a.getD ⟨0,0,none⟩,1,true,rows⟩,⟨9,a2.getD ⟨0,0,none⟩,1,true,rows2⟩] ((a.getD ⟨0,0,none⟩).add ((((t.length:Nat)+1:Int)).toNat*ty3.sz)) 3 (.int k):=⟨_,.head _,(t.length+1),_,rfl,by rw [hI];rfl,hr,rfl⟩
     have e2:zcv [⟨3,a.getD ⟨0,0,none⟩,1,true,rows⟩,⟨9,a2.getD ⟨0,0,none⟩,1,true,rows2⟩] ((a2.getD ⟨0,0,none⟩).add ((((t.length:Nat)+1:Int)).toNat*ty9.sz)) 9 (.str u):=⟨_,.tail _ (.head _),(t.length+1),_,rfl,by rw [hI];rfl,hr2,rfl⟩
     refine wk ?_
     refine zqn (.int k) e1 ?_
     refine wk ?_
     refine zqn (.str u) e2 ?_
     by_cases h3:3000<u.length
     ·refine wk ?_
      have hdl:(List.take (Int.toNat 3000) u).length≤3000:=by rw [List.length_take];exact Nat.min_le_left _ _
      generalize List.take (Int.toNat 3000) u=d at*
      have d1:decide (zw (20+ya .and k 3)∧d.length≤16384)=true:=decide_eq_true ⟨by unfold zw;omega,by omega⟩
      have hHl:=zay (20+ya .and k 3) (d.length:Int)
      have d2:(!decide (List.drop (Int.toNat 5) (hdF (20+ya .and k 3) (d.length:Int)++d)=d))=false:=by
        have e:List.drop (Int.toNat 5) (hdF (20+ya .and k 3) (d.length:Int)++d)=d:=List.drop_left' hHl
        rw [decide_eq_true e];rfl
      have p1:0<1∧ [At.int (20+ya .and k 3),At.str d].length= [At.str []].length+1:=⟨by decide,rfl⟩
      have hEl:(enR version (x ::t)).length≤3005*8:=Nat.le_trans (zjw fun y hy=>(hk y hy).2) (Nat.mul_le_mul_left _ h8)
      have p2:t.length+1≤cc∧(SV.tab cc 2 f).size=cc*zec.sz∧1≤zec.bytes∧(t.length+1+1)*zec.bytes≤140737488355328:=⟨hc,rfl,by decide,by show (t.length+1+1)*24≤_;have:=h8;simp only [List.length_cons] at this;omega⟩
      have p3:0+(t.length+1)≤cc:=by simp only [List.length_cons] at hc;omega
      refine wk ?_
      refine yq fun tl=>?_
      refine wk ?_
      have q1: ∀i,i<t.length+1+1+tl.t→((fun i=>if i<t.length+1+1 then (if i<t.length+1 then f (0+i) else za3 (fun _=> [At.int 0,At.str []]) 0 [At.int (20+ya .and k 3),At.str d] (0+(i-(t.length+1)))) else tl.f (i-(t.length+1+1))) i).length=2:=fun i hi=>by
       by_cases g1:i<t.length+1+1
       ·by_cases g2:i<t.length+1
        ·show (if i<_ then _ else _:List At).length=2;rw [if_pos g1,if_pos g2,Nat.zero_add];exact hf i (by simp only [List.length_cons] at hc;omega)
        ·show (if i<_ then _ else _:List At).length=2;rw [if_pos g1,if_neg g2,show 0+(i-(t.length+1))=0 by omega];rfl
       ·show (if i<_ then _ else _:List At).length=2;rw [if_neg g1];exact tl.h _ (by omega)
      have q2: ∀(j:Nat) (y:Int×List UInt8),((20+ya .and k 3,d) ::x ::t).reverse[j]?=some y→(fun i=>if i<t.length+1+1 then (if i<t.length+1 then f (0+i) else za3 (fun _=> [At.int 0,At.str []]) 0 [At.int (20+ya .and k 3),At.str d] (0+(i-(t.length+1)))) else tl.f (i-(t.length+1+1))) j= [At.int y.1,At.str y.2]:=fun j y hj=>by
       rcases zg6 hj with ⟨g,hj2⟩|⟨g,rfl⟩
       ·simp only [List.length_cons] at g
        show (if j<_ then (if j<_ then _ else _) else _:List At)=_
        rw [if_pos (by omega),if_pos (by omega),Nat.zero_add];exact hv j y hj2
       ·simp only [List.length_cons] at g
        show (if j<_ then (if j<_ then _ else _) else _:List At)=_
        rw [if_pos (by omega),if_neg (by omega),show 0+(j-(t.length+1))=0 by omega];rfl
      have q3: ∀y∈(20+ya .and k 3,d) ::x ::t,(20≤y.1∧y.1≤23)∧y.2.length≤3000:=fun y hy=>by
       rcases List.mem_cons.1 hy with rfl|hy
       ·exact ⟨by omega,hdl⟩
       ·exact hk y hy
      refine ⟨⟨(20+ya .and k 3,d) ::x ::t,by simp only [List.length_cons,List.length_nil] at *;omega,by simp only [List.length_cons,List.length_nil] at *;omega,by simp only [List.length_cons,List.length_nil] at *;omega,t.length+1+1+tl.t,fun i=>if i<t.length+1+1 then (if i<t.length+1 then f (0+i) else za3 (fun _=> [At.int 0,At.str []]) 0 [At.int (20+ya .and k 3),At.str d] (0+(i-(t.length+1)))) else tl.f (i-(t.length+1+1)),by simp only [List.length_cons,List.length_nil];omega,q1,q2,q3⟩,[0,4],by simp only [List.length_cons,List.length_nil] at *;omega,?_⟩
      repeat ((conv=>whnf);refine za ?_)
      conv=>whnf
      refine zh (congrArg SV.str ?he) ?_
      case he=>rw [zra (t:=x ::t)];exact zp4 version (20+ya .and k 3) d _
      repeat ((conv=>whnf);refine za ?_)
      exact trivial
     ·refine wk ?_
      have hdl:u.length≤3000:=by omega
      generalize u=d at*
      have d1:decide (zw (20+ya .and k 3)∧d.length≤16384)=true:=decide_eq_true ⟨by unfold zw;omega,by omega⟩
      have hHl:=zay (20+ya .and k 3) (d.length:Int)
      have d2:(!decide (List.drop (Int.toNat 5) (hdF (20+ya .and k 3) (d.length:Int)++d)=d))=false:=by
        have e:List.drop (Int.toNat 5) (hdF (20+ya .and k 3) (d.length:Int)++d)=d:=List.drop_left' hHl
        rw [decide_eq_true e];rfl
      have p1:0<1∧ [At.int (20+ya .and k 3),At.str d].length= [At.str []].length+1:=⟨by decide,rfl⟩
      have hEl:(enR version (x ::t)).length≤3005*8:=Nat.le_trans (zjw fun y hy=>(hk y hy).2) (Nat.mul_le_mul_left _ h8)
      have p2:t.length+1≤cc∧(SV.tab cc 2 f).size=cc*zec.sz∧1≤zec.bytes∧(t.length+1+1)*zec.bytes≤140737488355328:=⟨hc,rfl,by decide,by show (t.length+1+1)*24≤_;have:=h8;simp only [List.length_cons] at this;omega⟩
      have p3:0+(t.length+1)≤cc:=by simp only [List.length_cons] at hc;omega
      refine wk ?_
      refine yq fun tl=>?_
      refine wk ?_
      have q1: ∀i,i<t.length+1+1+tl.t→((fun i=>if i<t.length+1+1 then (if i<t.length+1 then f (0+i) else za3 (fun _=> [At.int 0,At.str []]) 0 [At.int (20+ya .and k 3),At.str d] (0+(i-(t.length+1)))) else tl.f (i-(t.length+1+1))) i).length=2:=fun i hi=>by
       by_cases g1:i<t.length+1+1
       ·by_cases g2:i<t.length+1
        ·show (if i<_ then _ else _:List At).length=2;rw [if_pos g1,if_pos g2,Nat.zero_add];exact hf i (by simp only [List.length_cons] at hc;omega)
        ·show (if i<_ then _ else _:List At).length=2;rw [if_pos g1,if_neg g2,show 0+(i-(t.length+1))=0 by omega];rfl
       ·show (if i<_ then _ else _:List At).length=2;rw [if_neg g1];exact tl.h _ (by omega)
      have q2: ∀(j:Nat) (y:Int×List UInt8),((20+ya .and k 3,d) ::x ::t).reverse[j]?=some y→(fun i=>if i<t.length+1+1 then (if i<t.length+1 then f (0+i) else za3 (fun _=> [At.int 0,At.str []]) 0 [At.int (20+ya .and k 3),At.str d] (0+(i-(t.length+1)))) else tl.f (i-(t.length+1+1))) j= [At.int y.1,At.str y.2]:=fun j y hj=>by
       rcases zg6 hj with ⟨g,hj2⟩|⟨g,rfl⟩
       ·simp only [List.length_cons] at g
        show (if j<_ then (if j<_ then _ else _) else _:List At)=_
        rw [if_pos (by omega),if_pos (by omega),Nat.zero_add];exact hv j y hj2
       ·simp only [List.length_cons] at g
        show (if j<_ then (if j<_ then _ else _) else _:List At)=_
        rw [if_pos (by omega),if_neg (by omega),show 0+(j-(t.length+1))=0 by omega];rfl
      have q3: ∀y∈(20+ya .and k 3,d) ::x ::t,(20≤y.1∧y.1≤23)∧y.2.length≤3000:=fun y hy=>by
       rcases List.mem_cons.1 hy with rfl|hy
       ·exact ⟨by omega,hdl⟩
       ·exact hk y hy
      refine ⟨⟨(20+ya .and k 3,d) ::x ::t,by simp only [List.length_cons,List.length_nil] at *;omega,by simp only [List.length_cons,List.length_nil] at *;omega,by simp only [List.length_cons,List.length_nil] at *;omega,t.length+1+1+tl.t,fun i=>if i<t.length+1+1 then (if i<t.length+1 then f (0+i) else za3 (fun _=> [At.int 0,At.str []]) 0 [At.int (20+ya .and k 3),At.str d] (0+(i-(t.length+1)))) else tl.f (i-(t.length+1+1)),by simp only [List.length_cons,List.length_nil];omega,q1,q2,q3⟩,[0,4],by simp only [List.length_cons,List.length_nil] at *;omega,?_⟩
      repeat ((conv=>whnf);refine za ?_)
      conv=>whnf
      refine zh (congrArg SV.str ?he) ?_
      case he=>rw [zra (t:=x ::t)];exact zp4 version (20+ya .and k 3) d _
      repeat ((conv=>whnf);refine za ?_)
      exact trivial
    ·by_cases ha:t.length+1<n<;>by_cases hb:t.length+1<n2<;>by_cases hc8:t.length+1<8
     ·exact absurd ⟨ha,hb,hc8⟩ hz
     all_goals
       have hEl:(enR version (x ::t)).length≤3005*8:=Nat.le_trans (zjw fun y hy=>(hk y hy).2) (Nat.mul_le_mul_left _ h8)
       have hEF:=z3e version (x ::t)
       obtain ⟨ws,hws⟩: ∃ws,ws=(x ::t).reverse:=⟨_,rfl⟩
       have hwl:ws.length=t.length+1:=by rw [hws,List.length_reverse];rfl
       have hwk: ∀y∈ws,(20≤y.1∧y.1≤23)∧y.2.length≤3000:=fun y hy=>hk y (by rw [hws] at hy;exact List.mem_reverse.1 hy)
       rw [←hws] at hv hEF
       refine wk ?_
       refine zt (Ix (t.length+1)) (fun q=>⟨[(0,.xsl a n c),(1,.xsl a2 n2 c2),(2,.int version),(7,.ptr 0 0 0 []),(8,.int 0),(10,.sl 1 0 0 [] (t.length+1) cc),(15,.int (q.i:Nat))],[.mk 88 [.int 9,.nilptr,.nilptr,.str (enF version (ws.drop q.i)),.int (-1)],.mk 50 [.tab cc 2 f]]⟩) (fun q=>t.length+1-q.i) ⟨0,Nat.zero_le _⟩ [0,1] ?_ ?_
       ·repeat ((conv=>whnf);refine za ?_)
        conv=>whnf
        refine zh (congrArg (fun z=>SV.agg [SV.int 9,SV.nilptr,SV.nilptr,SV.str z,SV.int (-1)]) (show []++enR version (x ::t)=enF version (ws.drop 0) by rw [hEF];rfl)) ?_
        repeat ((conv=>whnf);refine za ?_)
        exact trivial
       ·intro q
        have hi:=q.hi
        by_cases h4:q.i<t.length+1
        ·obtain ⟨y,hy⟩: ∃y,ws[q.i]?=some y:=⟨ws[q.i]'(by omega),List.getElem?_eq_getElem (by omega)⟩
         have hdr:ws.drop q.i=y ::ws.drop (q.i+1):=by
           obtain ⟨hq,e⟩:=List.getElem?_eq_some_iff.1 hy
           rw [List.drop_eq_getElem_cons hq,e]
         obtain ⟨hyk,hyl⟩:=hwk y (List.mem_of_getElem? hy)
         have hfy:=hv _ _ hy
         have hxl:(enF version (ws.drop (q.i+1))).length≤3005*(ws.drop (q.i+1)).length:=zu4 fun z hz=>(hwk z (List.mem_of_mem_drop hz)).2
         rw [List.length_drop] at hxl
         rw [hdr,z7g]
         generalize hX:enF version (ws.drop (q.i+1))=X at*
         have hcl:=zps version y
         have gK:=z7f (v:=version) (x:=y) X (by omega)
         have gN:=zw1 (v:=version) (x:=y) X (by omega)
         have gT:=z6m (v:=version) (x:=y) X (by omega)
         have gR:=z6f (v:=version) (x:=y) X (by omega)
         have gA:hA (enC version y++X) false= -1:=z3g gK gN (by unfold zw;omega) (by rw [if_neg (fun h=>Bool.noConfusion h.1)];omega) (fun h=>Bool.noConfusion h.1)
         have gl:(enC version y++X).length=5+y.2.length+X.length:=by rw [List.length_append,hcl]
         have hce:=hc
         simp only [List.length_cons] at hce
         have hIq:((q.i:Nat):Int).toNat=q.i:=Int.toNat_natCast _
         have hIc:((q.i:Nat):Int).toNat<cc:=by omega
         have l1:decide ((enC version y++X).length<5)=false:=decide_eq_false (by omega)
         have l2:decide (hA (enC version y++X) false= -1)=true:=decide_eq_true gA
         have l3:decide (((enC version y++X).length:Int)<5+hN (enC version y++X))=false:=decide_eq_false (by omega)
         have hfI:f ((q.i:Nat):Int).toNat= [.int y.1,.str y.2]:=by rw [hIq];exact hfy
         have l4:(decide (hK (enC version y++X)=y.1)&&(decide (hT (enC version y++X)=y.2)&&true))=true:=by rw [decide_eq_true gK,decide_eq_true gT];rfl
         refine wk ?_
         rw [hfI]
         repeat ((conv=>whnf);first|refine zn ?_|refine zf ?_|refine zg ?_|refine za ?_|refine zq (by first|(rw [l4];rfl)) ?_|refine zi (by first|(rw [l4];rfl)) ?_|refine zj (by first|(rw [l4];rfl)) ?_)
         conv=>whnf
         refine ⟨⟨q.i+1,h4⟩,[0,1],by show t.length+1-(q.i+1)<t.length+1-q.i;omega,?_⟩
         repeat ((conv=>whnf);refine za ?_)
         conv=>whnf
         refine zh (congrArg (fun z=>SV.agg [SV.int 9,SV.nilptr,SV.nilptr,SV.str z,SV.int (-1)]) (show hR (enC version y++X)=enF version (ws.drop (q.i+1)) by rw [gR,hX])) ?_
         repeat ((conv=>whnf);refine za ?_)
         exact trivial
        ·have h5:q.i=t.length+1:=by omega
         have hnil:ws.drop q.i= []:=List.drop_of_length_le (by omega)
         rw [hnil]
         have hEn:enF version []= []:=by unfold enF;rfl
         rw [hEn]
         refine wk ?_
         exact ze (hp':= []) [] rfl
theorem zw4 {r:List At} (h:zdz [.s] r): ∃s,r= [.str s]∧s.length≤140737488351232:=by
  match r,h with
  | [.str s],h=>exact ⟨s,rfl,h.1⟩
theorem zzd {r:List At} (h:zdz [.i] r): ∃k,r= [.int k]:=by
  match r,h with
  | [.int k],_=>exact ⟨k,rfl⟩
theorem zpu (W:World) (a:Option Addr) (n c:Nat) (rows:List (List At)) (hn:rows.length=n) (hb:n*8≤140737488351232) (has: ∀r∈rows,zdz [.i] r∧r.length=1)
    (a2:Option Addr) (n2 c2:Nat) (rows2:List (List At)) (hn2:rows2.length=n2) (hb2:n2*16≤140737488351232) (has2: ∀r∈rows2,zdz [.s] r∧r.length=1) (version:Int) (_: -9223372036854775808≤version∧version≤9223372036854775807):
    zil (zq6 f10.ntmps zr3 zes W [⟨3,a.getD ⟨0,0,none⟩,1,true,rows⟩,⟨9,a2.getD ⟨0,0,none⟩,1,true,rows2⟩]) z52 (zbz f10) f10.results.toList [.xsl a n c,.xsl a2 n2 c2,.int version] [] (fun r _=>r= .bool true):=
  zqq W a n c rows hn hb (fun r hr=>zzd (has r hr).1) a2 n2 c2 rows2 hn2 hb2 (fun r hr=>zw4 (has2 r hr).1) version
end Go.Sym.A
