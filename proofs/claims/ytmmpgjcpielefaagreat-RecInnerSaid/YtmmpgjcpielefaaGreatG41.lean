/-
  Contracts of functions of the program, each said of symbolic values, and plain laws; no condition beyond each statement's own.
-/
import Derived.Test.YtmmpgjcpielefaaGreatG40
import Derived.Test.YtmmpgjcpielefaaGreatG37
import Derived.Test.YtmmpgjcpielefaaGreatG36
import Derived.Test.YtmmpgjcpielefaaGreatG17
set_option linter.unusedSimpArgs false
set_option linter.unusedVariables false
namespace Go.Sym.Z
open Go Go.Proofs.Tryz Go.Sym.Lp Go.Sym.Cha Go.Sym.Sha Go.Sym.Hk Go.Sym.Gcm Go.Sym.Aes
set_option maxRecDepth 100000
def yhv:List (Nat×List PStep):= []
def abH:List UInt8:= [22,3,3,0,2,97,98]
theorem ya6:([]:List UInt8)++List.take (Int.toNat 4) (hdF 22 ((([97,98]:List UInt8).length:Nat):Int)++ [97,98])++List.drop (Int.toNat 4) (hdF 22 ((([97,98]:List UInt8).length:Nat):Int)++ [97,98])=abH:=rfl
theorem yd6:inL 0 ((([120,121,122]:List UInt8).length:Nat):Int)=4:=by decide+kernel
theorem yhh:hA [9,3,3,0,0] true=10:=by decide+kernel
theorem zqd:decide (hA abH false= -1)=true:=by decide+kernel
theorem z6q:decide ((abH.length:Int)<5+hN abH)=false:=by decide+kernel
theorem ygj:hK abH=22:=by decide+kernel
theorem ygk:hT abH= [97,98]:=by decide+kernel
theorem yai:hR abH= []:=by decide+kernel
attribute [local irreducible] abH zaq exF kyF ivF y4 zas y5 inL ncF lnz iA hA hN hK yw za0 hO hP hR hT iK yd
def zma:Spec:=fun args hp K=>match args,hp with
  | [],[]=>K (.bool true) []
  |_,_=>False
set_option maxHeartbeats 4000000 in
theorem z3a:zm prog 13 zma:=by
  refine zk y3 (zc z21 (zc z2h (zc z70 (zc zzz (zc zyu (zc z0a (zc zuf (zc z8l (zc z76 zg))))))))) rfl func13 rfl call13 (D:=yhv) ?_ ?_
  ·intro args hp K h
   unfold zma at h
   split at h
   ·exact Nat.le_of_ble_eq_true rfl
   ·exact h.elim
  ·intro args hp K h
   unfold zma at h
   split at h
   ·have hpk:zd2 4865 (kyF 4865 (yd [115] (Int.toNat 32))) (ivF 4865 (yd [115] (Int.toNat 32))) 0∧(0:Int)≤0∧(0:Int)≤16384∧([120,121,122]:List UInt8).length≤140737488351232:=⟨⟨.inl rfl,zl9 _ _,zmi _ _,by decide,by decide⟩,by decide,by decide,by decide⟩
    have hpr:zd2 4865 (kyF 4865 (yd [115] (Int.toNat 32))) (ivF 4865 (yd [115] (Int.toNat 32))) 0:=hpk.1
    have hsl:(yw 0 4865 (kyF 4865 (yd [115] (Int.toNat 32))) (ivF 4865 (yd [115] (Int.toNat 32))) 0 23 [120,121,122]).length=25:=by
      have:=zq4 (p:=0) (w:=4865) (key:=(kyF 4865 (yd [115] (Int.toNat 32)))) (iv:=(ivF 4865 (yd [115] (Int.toNat 32)))) (m:=0) (kind:=23) (s:= [120,121,122]) (by decide) (by decide)
      rw [yd6] at this
      omega
    have hp2:zd2 4865 (kyF 4865 (yd [115] (Int.toNat 32))) (ivF 4865 (yd [115] (Int.toNat 32))) 0∧(hR abH++((yw 0 4865 (kyF 4865 (yd [115] (Int.toNat 32))) (ivF 4865 (yd [115] (Int.toNat 32))) 0 23 [120,121,122])++ [9,3,3,0,0])).length<9223372036854775808:=⟨hpr,by rw [yai,List.nil_append,List.length_append,hsl];decide⟩
    obtain ⟨q1,q2,q3,q4,q5,q6,q7⟩:=z5n (p:=0) (w:=4865) (key:=(kyF 4865 (yd [115] (Int.toNat 32)))) (iv:=(ivF 4865 (yd [115] (Int.toNat 32)))) (m:=0) (kind:=23) (s:= [120,121,122]) [9,3,3,0,0] (by decide) (by decide)
    obtain ⟨q8,q9,q10,q11⟩:=z99 (p:=0) (kind:=23) (s:= [120,121,122]) (by decide) (by decide) (by decide)
    refine za ?_
    rw [ya6]
    repeat ((conv=>whnf);first|refine zu ?_|refine zi ?_|refine zj ?_|refine zb ?_|refine zw (by first|exact zqd|(rw [zqd];rfl)|exact z6q) ?_|refine zo (by first|exact zqd|(rw [zqd];rfl)|exact z6q) ?_|refine zn (by first|exact zqd|(rw [zqd];rfl)|exact z6q) ?_)
    conv=>whnf
    rw [yai,List.nil_append]
    have d1:decide (((yw 0 4865 (kyF 4865 (yd [115] (Int.toNat 32))) (ivF 4865 (yd [115] (Int.toNat 32))) 0 23 [120,121,122])++ [9,3,3,0,0]).length<5)=false:=decide_eq_false (by omega)
    have d2:decide (hA ((yw 0 4865 (kyF 4865 (yd [115] (Int.toNat 32))) (ivF 4865 (yd [115] (Int.toNat 32))) 0 23 [120,121,122])++ [9,3,3,0,0]) true= -1)=true:=decide_eq_true q2
    have d3:decide ((((yw 0 4865 (kyF 4865 (yd [115] (Int.toNat 32))) (ivF 4865 (yd [115] (Int.toNat 32))) 0 23 [120,121,122])++ [9,3,3,0,0]).length:Int)<5+hN ((yw 0 4865 (kyF 4865 (yd [115] (Int.toNat 32))) (ivF 4865 (yd [115] (Int.toNat 32))) 0 23 [120,121,122])++ [9,3,3,0,0]))=false:=decide_eq_false (by omega)
    have d4:decide (hK ((yw 0 4865 (kyF 4865 (yd [115] (Int.toNat 32))) (ivF 4865 (yd [115] (Int.toNat 32))) 0 23 [120,121,122])++ [9,3,3,0,0])=20)=false:=decide_eq_false (by omega)
    have d5:decide (hO 4865 (kyF 4865 (yd [115] (Int.toNat 32))) (ivF 4865 (yd [115] (Int.toNat 32))) 0 ((yw 0 4865 (kyF 4865 (yd [115] (Int.toNat 32))) (ivF 4865 (yd [115] (Int.toNat 32))) 0 23 [120,121,122])++ [9,3,3,0,0]))=true:=decide_eq_true q5
    have d6:decide (iA (hP 4865 (kyF 4865 (yd [115] (Int.toNat 32))) (ivF 4865 (yd [115] (Int.toNat 32))) 0 ((yw 0 4865 (kyF 4865 (yd [115] (Int.toNat 32))) (ivF 4865 (yd [115] (Int.toNat 32))) 0 23 [120,121,122])++ [9,3,3,0,0]))= -1)=true:=decide_eq_true (by rw [q6];exact q10)
    have hp3:zd2 4865 (kyF 4865 (yd [115] (Int.toNat 32))) (ivF 4865 (yd [115] (Int.toNat 32))) (0+1)∧(hR ((yw 0 4865 (kyF 4865 (yd [115] (Int.toNat 32))) (ivF 4865 (yd [115] (Int.toNat 32))) 0 23 [120,121,122])++ [9,3,3,0,0])).length<9223372036854775808:=⟨⟨.inl rfl,zl9 _ _,zmi _ _,by decide,by decide⟩,by rw [q7];decide⟩
    have d7:decide ((hR ((yw 0 4865 (kyF 4865 (yd [115] (Int.toNat 32))) (ivF 4865 (yd [115] (Int.toNat 32))) 0 23 [120,121,122])++ [9,3,3,0,0])).length<5)=false:=decide_eq_false (by rw [q7];decide)
    have hA7:hA (hR ((yw 0 4865 (kyF 4865 (yd [115] (Int.toNat 32))) (ivF 4865 (yd [115] (Int.toNat 32))) 0 23 [120,121,122])++ [9,3,3,0,0])) true=10:=by rw [q7];exact yhh
    have d8:decide (hA (hR ((yw 0 4865 (kyF 4865 (yd [115] (Int.toNat 32))) (ivF 4865 (yd [115] (Int.toNat 32))) 0 23 [120,121,122])++ [9,3,3,0,0])) true= -1)=false:=decide_eq_false (by rw [hA7];decide)
    have d9:(decide (hK abH=22)&&(decide (hT abH= [97,98])&&true))=true:=by rw [ygj,ygk];rfl
    have d10:decide (((yw 0 4865 (kyF 4865 (yd [115] (Int.toNat 32))) (ivF 4865 (yd [115] (Int.toNat 32))) 0 23 [120,121,122]).length:Int)=25)=true:=decide_eq_true (by omega)
    have d11:decide (iK (hP 4865 (kyF 4865 (yd [115] (Int.toNat 32))) (ivF 4865 (yd [115] (Int.toNat 32))) 0 ((yw 0 4865 (kyF 4865 (yd [115] (Int.toNat 32))) (ivF 4865 (yd [115] (Int.toNat 32))) 0 23 [120,121,122])++ [9,3,3,0,0]))=23)=true:=decide_eq_true (by rw [q6];exact q9)
    have d12:decide ((hP 4865 (kyF 4865 (yd [115] (Int.toNat 32))) (ivF 4865 (yd [115] (Int.toNat 32))) 0 ((yw 0 4865 (kyF 4865 (yd [115] (Int.toNat 32))) (ivF 4865 (yd [115] (Int.toNat 32))) 0 23 [120,121,122])++ [9,3,3,0,0])).take (lnz (hP 4865 (kyF 4865 (yd [115] (Int.toNat 32))) (ivF 4865 (yd [115] (Int.toNat 32))) 0 ((yw 0 4865 (kyF 4865 (yd [115] (Int.toNat 32))) (ivF 4865 (yd [115] (Int.toNat 32))) 0 23 [120,121,122])++ [9,3,3,0,0])) (hP 4865 (kyF 4865 (yd [115] (Int.toNat 32))) (ivF 4865 (yd [115] (Int.toNat 32))) 0 ((yw 0 4865 (kyF 4865 (yd [115] (Int.toNat 32))) (ivF 4865 (yd [115] (Int.toNat 32))) 0 23 [120,121,122])++ [9,3,3,0,0])).length-1)= [120,121,122])=true:=decide_eq_true (by rw [q6];exact q11)
    have d13:decide (hA (hR ((yw 0 4865 (kyF 4865 (yd [115] (Int.toNat 32))) (ivF 4865 (yd [115] (Int.toNat 32))) 0 23 [120,121,122])++ [9,3,3,0,0])) true=10)=true:=decide_eq_true hA7
    repeat ((conv=>whnf);first|refine zu ?_|refine zi ?_|refine zj ?_|refine zb ?_|refine zw (by first|exact d1|exact d2|exact d3|exact d4|exact d5|exact d6|exact d7|exact d8|exact d9|(rw [d9];rfl)|exact d10|(rw [d10];rfl)|exact d13|(rw [d13];rfl)|(rw [d11,d12];rfl)) ?_|refine zo (by first|exact d1|exact d2|exact d3|exact d4|exact d5|exact d6|exact d7|exact d8|exact d9|(rw [d9];rfl)|exact d10|(rw [d10];rfl)|exact d13|(rw [d13];rfl)|(rw [d11,d12];rfl)) ?_|refine zn (by first|exact d1|exact d2|exact d3|exact d4|exact d5|exact d6|exact d7|exact d8|exact d9|(rw [d9];rfl)|exact d10|(rw [d10];rfl)|exact d13|(rw [d13];rfl)|(rw [d11,d12];rfl)) ?_)
    conv=>whnf
    conv=>whnf
    exact ze [] h
   ·exact h.elim
end Go.Sym.Z

namespace Go.Sym.Z
open Go Go.Proofs.Tryz Go.Sym.Lp Go.Sym.Cha Go.Sym.Sha Go.Sym.Hk Go.Sym.Gcm
set_option maxRecDepth 100000
attribute [local irreducible] zaq exF kyF ivF y4 zas y5 inL ncF lnz iA hA hN hK beB
end Go.Sym.Z

namespace Go.Sym.Z
open Go Go.Proofs.Tryz Go.Sym.Lp Go.Sym.Cha Go.Sym.Sha Go.Sym.Hk Go.Sym.Gcm
set_option maxRecDepth 100000
attribute [local irreducible] zaq exF kyF ivF y4 zas y5 inL ncF lnz iA hA hN hK
def yff (p rg:Int):Prop:=(0≤p∧p≤16384)∧(rg=0∨(33290≤rg∧rg≤262144))
instance (p rg:Int):Decidable (yff p rg):=by unfold yff;exact inferInstance
end Go.Sym.Z

namespace Go.Sym.Z
open Go Go.Proofs.Tryz Go.Sym.Lp Go.Sym.Cha Go.Sym.Sha Go.Sym.Hk Go.Sym.Gcm
set_option maxRecDepth 100000
attribute [local irreducible] zaq exF kyF ivF y4 zas y5 inL ncF lnz iA hA hN hK hdF yw za0
end Go.Sym.Z

namespace Go.Sym.Z
open Go Go.Proofs.Tryz Go.Sym.Lp Go.Sym.Cha Go.Sym.Sha Go.Sym.Hk Go.Sym.Gcm
set_option maxRecDepth 100000
attribute [local irreducible] zaq exF kyF ivF y4 zas y5 inL ncF iA hA hN hK hdF yw za0
end Go.Sym.Z

namespace Go.Sym.Z
open Go Go.Proofs.Tryz Go.Sym.Lp Go.Sym.Cha Go.Sym.Sha Go.Sym.Hk Go.Sym.Gcm
set_option maxRecDepth 100000
attribute [local irreducible] zaq exF kyF ivF y4 zas y5 inL ncF iA hA hN hK hdF yw za0 hT hR lnz
end Go.Sym.Z

namespace Go.Sym.Z
open Go Go.Proofs.Tryz Go.Sym.Lp Go.Sym.Cha Go.Sym.Sha Go.Sym.Hk Go.Sym.Gcm
set_option maxRecDepth 100000
def z7o (nt:Nat) (ty:List (Nat×TyI)) (fs:List (Nat×Spec)) (w:World) (rs:List Row):Ctx:={nt:=nt,ty:=ty,fn:=fs,E:=fun w'=>Ext (fun _=>False) w w',ext:=zl7 rs}
structure Kq where
  w:Int
  key:List UInt8
  iv:List UInt8
  m:Int
structure RQ where
  W:Option Kq
  R:Option Kq
  rm:Int
  held:List UInt8
  f:Int
def kOK (x:Option Kq) (B:Nat):Prop:= ∀k,x=some k→su k.w∧k.key.length=aSz k.w∧k.iv.length=12∧0≤k.m∧k.m≤(B:Int)
structure RI (q:RQ) (B:Nat):Prop where
  hW:kOK q.W B
  hR:kOK q.R B
  hm:0≤q.rm∧q.rm≤(B:Int)
  he:q.f= -1→ ∀k,q.R=some k→q.rm=k.m
  hf:q.f= -1∨0≤q.f
  hl:q.held.length≤B*281474976710656
theorem zud {x:Option Kq} {B C:Nat} (h:kOK x B) (hBC:B≤C):kOK x C:=fun k hk=>by
  obtain ⟨h1,h2,h3,h4,h5⟩:=h k hk
  exact ⟨h1,h2,h3,h4,by omega⟩
theorem RI.mono {q:RQ} {B C:Nat} (h:RI q B) (hBC:B≤C):RI q C:=
  ⟨zud h.hW hBC,zud h.hR hBC,⟨h.hm.1,by have:=h.hm.2;omega⟩,h.he,h.hf,Nat.le_trans h.hl (Nat.mul_le_mul_right _ hBC)⟩
attribute [local irreducible] zaq exF kyF ivF y4 zas y5 inL ncF lnz iA hA hN hK yw za0 hO hP hR hT iK yd hdF
end Go.Sym.Z

namespace Go.Sym
end Go.Sym

namespace Go.Sym.Z
open Go Go.Proofs.Tryz Go.Sym.Lp Go.Sym.Cha Go.Sym.Sha Go.Sym.Hk Go.Sym.Gcm
set_option maxRecDepth 100000
structure JQ (i:Nat) (F:Int→Int→List UInt8→Int→RQ) where
  k:Nat
  bm:Int
  rm:Int
  held:List UInt8
  f:Int
  hk:k≤30
  hq:RI (F bm rm held f) (31*i+1+k)
attribute [local irreducible] zaq exF kyF ivF y4 zas y5 inL ncF lnz iA hA hN hK yw za0 hO hP hR hT iK yd hdF
end Go.Sym.Z

namespace Go.Sym.Z
open Go Go.Proofs.Tryz Go.Sym.Lp Go.Sym.Cha Go.Sym.Sha Go.Sym.Hk Go.Sym.Gcm
set_option maxRecDepth 100000
attribute [local irreducible] zaq exF kyF ivF y4 zas y5 inL ncF lnz iA hA hN hK yw za0 hO hP hR hT iK yd hdF
end Go.Sym.Z

namespace Go.Sym.Z
open Go Go.Proofs.Tryz Go.Sym.Lp Go.Sym.Cha Go.Sym.Sha Go.Sym.Hk Go.Sym.Gcm
set_option maxRecDepth 100000
structure OQ (n:Nat) where
  i:Nat
  hn:i≤n
  h40:i≤40
  q:RQ
  hq:RI q (31*i)
attribute [local irreducible] zaq exF kyF ivF y4 zas y5 inL ncF lnz iA hA hN hK yw za0 hO hP hR hT iK yd hdF
end Go.Sym.Z

namespace Go.Sym.Z
open Go Go.Proofs.Tryz Go.Sym.Lp Go.Sym.Cha Go.Sym.Sha Go.Sym.Hk Go.Sym.Gcm
set_option maxRecDepth 100000
theorem z3e {iv:List UInt8} (h:iv.length=12): ∀i,zlj iv 0 i=iv
  |0=>rfl
  |i+1=>by
   simp only [zlj]
   rw [z3e h i,Int.zero_ediv,show UInt8.ofInt 0=0 from rfl,UInt8.xor_zero,List.getD_eq_getElem?_getD,List.getElem?_eq_getElem (by omega)]
   exact List.set_getElem_self _
theorem yao {iv:List UInt8} (h:iv.length=12):ncF iv 0=iv:=z3e h 8
def h5F (a b:UInt8) (n:Int):List UInt8:= [23,a,b,UInt8.ofInt (n/ 2^8),UInt8.ofInt n]
theorem ye3 (a b:UInt8) (n:Int) (t:List UInt8):hK (h5F a b n++t)=23:=rfl
theorem ye0 {a b:UInt8} {n:Int} (t:List UInt8) (h:0≤n∧n≤65535):hN (h5F a b n++t)=n:=by
  have e:hN (h5F a b n++t)=256*((UInt8.ofInt (n/ 2^8)).toNat:Int)+((UInt8.ofInt n).toNat:Int):=rfl
  rw [e,zb4,zb4]
  have:(2:Int)^8=256:=rfl
  rw [this];omega
theorem z37 {w:Int} {key iv:List UInt8} {m:Int} (a b:UInt8) (inner:List UInt8) (hl:inner.length≤16600) {X:List UInt8} (hX:X=h5F a b ((inner.length:Int)+16)++y4 w key (ncF iv m) (h5F a b ((inner.length:Int)+16)) inner):
    X.length=inner.length+21∧hA X true= -1∧hK X=23∧hN X=(inner.length:Int)+16∧hO w key iv m X∧hP w key iv m X=inner∧hR X= []:=by
  have h5:(h5F a b ((inner.length:Int)+16)).length=5:=rfl
  have hsl:(y4 w key (ncF iv m) (h5F a b ((inner.length:Int)+16)) inner).length=inner.length+16:=zbx _ _ _ _ _
  have hXl:X.length=inner.length+21:=by rw [hX,List.length_append,h5,hsl];omega
  have hK0:hK X=23:=by rw [hX];exact ye3 _ _ _ _
  have hN0:hN X=(inner.length:Int)+16:=by rw [hX];exact ye0 _ ⟨by omega,by omega⟩
  have hT0:hT X=y4 w key (ncF iv m) (h5F a b ((inner.length:Int)+16)) inner:=by
    unfold hT
    rw [hN0,hX,List.drop_left' h5]
    exact List.take_of_length_le (by omega)
  have hTt:(hT X).take ((hT X).length-16)=y5 w key (ncF iv m) inner:=by
    rw [hT0,hsl,Nat.add_sub_cancel,za2];exact List.take_left' (xp _ _ _ _)
  have hTd:(hT X).drop ((hT X).length-16)=zas w key (ncF iv m) (h5F a b ((inner.length:Int)+16)) (y5 w key (ncF iv m) inner):=by
    rw [hT0,hsl,Nat.add_sub_cancel,za2];exact List.drop_left' (xp _ _ _ _)
  have hT5:X.take 5=h5F a b ((inner.length:Int)+16):=by rw [hX];exact List.take_left' h5
  refine ⟨hXl,yap hK0 hN0 (by decide) (by rw [if_pos ⟨rfl,rfl⟩];omega) (by decide),hK0,hN0,?_,?_,?_⟩
  ·unfold hO
   rw [hTt,hTd,hT5,hT0,hsl]
   exact ⟨by omega,rfl⟩
  ·unfold hP
   rw [hTt,zt0]
  ·unfold hR
   rw [hN0]
   exact List.drop_of_length_le (by omega)
theorem zyj (A B:List UInt8): ∀n,n≤A.length→lnz (A++B) n=lnz A n
  |0,_=>rfl
  |n+1,h=>by
   simp only [lnz]
   rw [List.getD_eq_getElem?_getD,List.getElem?_append_left (by omega),←List.getD_eq_getElem?_getD,zyj A B n (by omega)]
theorem z2g (A:List UInt8) (z:Nat): ∀y,y≤z→lnz (A++List.replicate z 0) (A.length+y)=lnz A A.length
  |0,_=>zyj A _ _ (Nat.le_refl _)
  |y+1,h=>by
   show lnz _ (A.length+y+1)=_
   simp only [lnz]
   have e:(A++List.replicate z (0:UInt8)).getD (A.length+y) 0=0:=by
     rw [List.getD_eq_getElem?_getD,List.getElem?_append_right (by omega),Nat.add_sub_cancel_left,List.getElem?_replicate,if_pos (by omega)];rfl
   rw [if_pos e]
   exact z2g A z y (by omega)
theorem zyb (A:List UInt8) (z:Nat):lnz (A++List.replicate z 0) (A++List.replicate z (0:UInt8)).length=lnz A A.length:=by
  rw [List.length_append,List.length_replicate];exact z2g A z z (Nat.le_refl _)
theorem ztm {A:List UInt8} {k:UInt8} (h:k≠0):lnz (A++ [k]) (A++ [k]).length=A.length+1:=by
  rw [List.length_append]
  show lnz _ (A.length+1)=_
  simp only [lnz]
  have e:(A++ [k]).getD A.length 0=k:=by rw [List.getD_eq_getElem?_getD,List.getElem?_append_right (Nat.le_refl _),Nat.sub_self];rfl
  rw [if_neg (by rw [e];exact h)]
theorem zx6 (A:List UInt8): ∀n,0<lnz A n→A.getD (lnz A n-1) 0≠0
  |0,h=>absurd h (Nat.lt_irrefl _)
  |n+1,h=>by
   simp only [lnz] at h ⊢
   by_cases e:A.getD n 0=0
   ·rw [if_pos e] at h ⊢;exact zx6 A n h
   ·rw [if_neg e];exact e
end Go.Sym.Z

namespace Go.Sym.Z
open Go Go.Proofs.Tryz Go.Sym.Lp Go.Sym.Cha Go.Sym.Sha Go.Sym.Hk Go.Sym.Gcm
set_option maxRecDepth 100000
def pl4:List (Nat×List PStep):= [(10,[⟨0,[]⟩,⟨1,[0]⟩,⟨2,[0]⟩,⟨3,[0]⟩,⟨4,[0]⟩,⟨5,[]⟩,⟨6,[0,1,2,3,4,5]⟩,⟨7,[0,1,2,3,4,5]⟩,⟨8,[0,1,2,3,4,5]⟩,⟨9,[]⟩,⟨10,[]⟩])]
def z23:List (Nat×TyI):= [(3,ty3),(4,ty4),(5,ty5),(9,ty9),(48,zd3),(51,zd6),(113,xu),(99,xm),(103,ze6),(68,zk3),(70,zkk),(104,zen),(74,zkg),(23,zkf),(43,zkx)]
theorem zzv: ∀t i,y9 z23 t=some i→yx prog t i:=(zd zda (zd zc8 (zd zc9 (zd zdf (zd zbq (zd zbr (zd zbh (zd zcx (zd zn5 (zd zsg (zd zs8 (zd zoz (zd zsa (zd zsu (zd zre zau)))))))))))))))
def zmt:List (Nat×Spec):= [(10,zys),(12,zym),(14,zr4),(22,ztd),(16,zl5),(13,zma),(26,znb),(27,zrz)]
theorem zpx: ∀f S,y9 zmt f=some S→zm prog f S:=zc z21 (zc z2h (zc zzz (zc zyu (zc zuf (zc z3a (zc z77 (zc z4h zg)))))))
structure ZT (text:List UInt8) where
  j:Nat
  r:Nat
  hj:j≤text.length
  h:(r=0∧lnz text text.length=lnz text j)∨(r≠0∧lnz text text.length=j+1∧r=(text.getD j 0).toNat)
theorem zw2 {text:List UInt8} {j r:Nat} (hj:j≤text.length) (h0:0<j) (h:(r=0∧lnz text text.length=lnz text j)∨(r≠0∧lnz text text.length=j+1∧r=(text.getD j 0).toNat)) (hr:r=0):
    ((text.getD (j-1) 0).toNat=0∧lnz text text.length=lnz text (j-1))∨((text.getD (j-1) 0).toNat≠0∧lnz text text.length=(j-1)+1∧(text.getD (j-1) 0).toNat=(text.getD (j-1) 0).toNat):=by
  obtain ⟨i,rfl⟩: ∃i,j=i+1:=⟨j-1,by omega⟩
  rw [Nat.add_sub_cancel]
  have e:lnz text text.length=lnz text (i+1):=by
    rcases h with h|h
    ·exact h.2
    ·exact absurd hr h.1
  simp only [lnz] at e
  by_cases hz:text.getD i 0=0
  ·rw [if_pos hz] at e
   exact .inl ⟨by rw [hz];rfl,e⟩
  ·rw [if_neg hz] at e
   exact .inr ⟨fun h=>hz (UInt8.toNat_inj.1 h),e,rfl⟩
def zb9 (text:List UInt8) (k:UInt8) (z:Nat):List UInt8:=text++ [k]++List.replicate z 0
theorem z25 (text:List UInt8) (k:UInt8) (z:Nat):(zb9 text k z).length=text.length+1+z:=by unfold zb9;simp;omega
theorem yb9 {text:List UInt8} {k:UInt8} (z:Nat) (h:k≠0):lnz (zb9 text k z) (zb9 text k z).length=text.length+1∧iK (zb9 text k z)=(k.toNat:Int)∧(zb9 text k z).take (lnz (zb9 text k z) (zb9 text k z).length-1)=text:=by
  have h1:lnz (zb9 text k z) (zb9 text k z).length=text.length+1:=by unfold zb9;rw [zyb,ztm h]
  refine ⟨h1,?_,?_⟩
  ·unfold iK
   rw [h1,Nat.add_sub_cancel]
   have e:(zb9 text k z).getD text.length 0=k:=by
     unfold zb9;rw [List.append_assoc,List.getD_eq_getElem?_getD,List.getElem?_append_right (Nat.le_refl _),Nat.sub_self];rfl
   rw [e]
  ·rw [h1,Nat.add_sub_cancel];unfold zb9;rw [List.append_assoc];exact List.take_left' rfl
theorem z3o (text:List UInt8) (z:Nat):lnz (zb9 text 0 z) (zb9 text 0 z).length=lnz text text.length:=by
  have e:zb9 text 0 z=text++List.replicate (z+1) 0:=by unfold zb9;rw [List.append_assoc,List.replicate_succ];rfl
  rw [e];exact zyb text (z+1)
theorem z9y {text:List UInt8} {z j:Nat} (hj:j<text.length) (h:lnz text text.length=j+1):iK (zb9 text 0 z)=((text.getD j 0).toNat:Int)∧(zb9 text 0 z).take (lnz (zb9 text 0 z) (zb9 text 0 z).length-1)=text.take j:=by
  have h1:=z3o text z
  rw [h] at h1
  constructor
  ·unfold iK
   rw [h1,Nat.add_sub_cancel]
   unfold zb9
   rw [List.append_assoc,List.getD_eq_getElem?_getD,List.getElem?_append_left hj,←List.getD_eq_getElem?_getD]
  ·rw [h1,Nat.add_sub_cancel];unfold zb9;rw [List.append_assoc,List.take_append_of_le_length (by omega)]
theorem yaa {p:List UInt8} (hl:p.length≤16385):iA p=if lnz p p.length=0 then 10 else if iK p=21∨iK p=22∨iK p=23 then-1 else 10:=by
  unfold iA;rw [if_neg (by omega)]
attribute [local irreducible] zaq exF kyF ivF y4 zas y5 inL ncF lnz iA hA hN hK yw za0 hO hP hR hT iK yd hdF zb9 h5F
set_option maxHeartbeats 8000000 in
theorem zt2 (W:World) (which:Int) (secret text:List UInt8) (kind zeros:Int) (hs:secret.length≤140737488351232) (htx:text.length≤140737488351232):
    zs0 (z7o f4.ntmps z23 zmt W []) pl4 (zk9 f4) f4.results.toList [.int which,.str secret,.str text,.int kind,.int zeros] [] (fun r _=>r= .bool true):=by
  by_cases h2:2000<text.length
  ·refine za ?_
   exact ze (hp':= []) [] rfl
  ·have b1:=Go.Sym.Ib.ibits_and (a:=kind) (m:=31) (by decide) (by decide)
   have b2:=Go.Sym.Ib.ibits_and (a:=zeros) (m:=255) (by decide) (by decide)
   have hu:(UInt64.ofInt which%UInt64.ofNat 3).toNat<3:=by rw [UInt64.toNat_mod];exact Nat.mod_lt _ (by decide)
   have hpw:(UInt64.ofInt which%UInt64.ofNat 3).toNat<9223372036854775808:=by omega
   refine za ?_
   generalize (UInt64.ofInt which%UInt64.ofNat 3).toNat=u at*
   have hsu:su (4865+(u:Int)):=by unfold su;omega
   have dsu:decide (su (4865+(u:Int)))=true:=decide_eq_true hsu
   generalize 4865+(u:Int)=w at*
   repeat ((conv=>whnf);first|refine zu ?_|refine zi ?_|refine zj ?_|refine zb ?_|refine zw (by first|exact dsu) ?_|refine zo (by first|exact dsu) ?_|refine zn (by first|exact dsu) ?_)
   conv=>whnf
   generalize zal BinOp.and kind 31=k at*
   generalize zal BinOp.and zeros 255=z at*
   have hIn:text++List.take 1 (List.drop (off []) ((List.replicate 1 0).set (off [(0,ty5.sz)]) (UInt8.ofInt k)))++List.take z.toNat (List.drop (off []) (List.replicate z.toNat 0))=zb9 text (UInt8.ofInt k) z.toNat:=by
     rw [zgd]
     show text++ [UInt8.ofInt k]++List.take z.toNat (List.replicate z.toNat 0)=_
     rw [List.take_of_length_le (by rw [List.length_replicate];exact Nat.le_refl _)]
     unfold zb9;rfl
   rw [hIn]
   obtain ⟨inn,hinn⟩: ∃inn,inn=zb9 text (UInt8.ofInt k) z.toNat:=⟨_,rfl⟩
   have hil:inn.length=text.length+1+z.toNat:=by rw [hinn];exact z25 _ _ _
   rw [←hinn]
   have hH:List.take 5 (List.drop (off []) ((((((List.replicate 5 0).set (off [(0,ty5.sz)]) (UInt8.ofNat 23)).set (off [(1,ty5.sz)]) (UInt8.ofNat 9)).set (off [(2,ty5.sz)]) (UInt8.ofNat 9)).set (off [(3,ty5.sz)]) (UInt8.ofInt (((inn.length:Int)+16)/ 2^(UInt64.ofNat 8).toNat))).set (off [(4,ty5.sz)]) (UInt8.ofInt ((inn.length:Int)+16))))=h5F 9 9 ((inn.length:Int)+16):=by unfold h5F;rfl
   rw [hH]
   have hkl:=zl9 w secret
   have hivl:=zmi w secret
   have h5l:(h5F 9 9 ((inn.length:Int)+16)).length=5:=by unfold h5F;rfl
   have hky0:zd2 w (kyF w secret) (ivF w secret) 0:=⟨hsu,hkl,hivl,by decide,by decide⟩
   have dsl:decide (zeg w (kyF w secret).length∧(ivF w secret).length=12∧(h5F 9 9 ((inn.length:Int)+16)).length≤65536∧(inn.length:Int)≤65536)=true:=decide_eq_true ⟨zhb hky0,hivl,by omega,by omega⟩
   have hsl:(y4 w (kyF w secret) (ivF w secret) (h5F 9 9 ((inn.length:Int)+16)) inn).length=inn.length+16:=zbx _ _ _ _ _
   obtain ⟨X,hX⟩: ∃X,X= []++(h5F 9 9 ((inn.length:Int)+16)++y4 w (kyF w secret) (ivF w secret) (h5F 9 9 ((inn.length:Int)+16)) inn):=⟨_,rfl⟩
   have hX':X=h5F 9 9 ((inn.length:Int)+16)++y4 w (kyF w secret) (ncF (ivF w secret) 0) (h5F 9 9 ((inn.length:Int)+16)) inn:=by rw [hX,yao hivl];rfl
   obtain ⟨hXl,hXA,hXK,hXN,hXO,hXP,hXR⟩:=z37 9 9 inn (by omega) hX'
   have hpp:(0:Nat)+(h5F 9 9 ((inn.length:Int)+16)++y4 w (kyF w secret) (ivF w secret) (h5F 9 9 ((inn.length:Int)+16)) inn).length<9223372036854775808:=by rw [List.length_append];omega
   repeat ((conv=>whnf);first|refine zu ?_|refine zi ?_|refine zj ?_|refine zb ?_|refine zw (by first|exact dsl|(rw [dsl];rfl)) ?_|refine zo (by first|exact dsl|(rw [dsl];rfl)) ?_|refine zn (by first|exact dsl|(rw [dsl];rfl)) ?_)
   conv=>whnf
   rw [←hX]
   have hpn:zd2 w (kyF w secret) (ivF w secret) 0∧X.length<9223372036854775808:=⟨hky0,by omega⟩
   have d1:decide (X.length<5)=false:=decide_eq_false (by omega)
   have d2:decide (hA X true= -1)=true:=decide_eq_true hXA
   have d3:decide ((X.length:Int)<5+hN X)=false:=decide_eq_false (by omega)
   have d4:decide (hK X=20)=false:=decide_eq_false (by omega)
   have d5:decide (hO w (kyF w secret) (ivF w secret) 0 X)=true:=decide_eq_true hXO
   repeat ((conv=>whnf);first|refine zu ?_|refine zi ?_|refine zj ?_|refine zb ?_|refine zw (by first|exact d1|exact d2|exact d3|exact d4|exact d5) ?_|refine zo (by first|exact d1|exact d2|exact d3|exact d4|exact d5) ?_|refine zn (by first|exact d1|exact d2|exact d3|exact d4|exact d5) ?_)
   conv=>whnf
   rw [hXP]
   have hiA:=yaa (p:=inn) (by omega)
   have hk8:((UInt8.ofInt k).toNat:Int)=k:=by rw [zb4];omega
   by_cases hk0:k=0
   ·have g1:=z3o text z.toNat
    have hk00:UInt8.ofInt k=0:=by rw [hk0];rfl
    rw [hk00] at hinn
    rw [←hinn] at g1
    rw [g1] at hiA
    by_cases hl0:lnz text text.length=0
    ·rw [if_pos hl0] at hiA
     have d6:decide (iA inn= -1)=false:=decide_eq_false (by omega)
     repeat ((conv=>whnf);first|refine zu ?_|refine zi ?_|refine zj ?_|refine zb ?_|refine zw (by first|exact d6) ?_|refine zo (by first|exact d6) ?_|refine zn (by first|exact d6) ?_)
     conv=>whnf
     rw [hiA,hk0]
     conv=>whnf
     refine zp (ZT text) (fun q=>⟨[(14,.int 0),(16,.int 0),(23,.int 0),(24,.ptr 0 0 0 []),(25,.bool false),(26,.int 10),(27,.str (text.take q.j)),(28,.int (q.r:Nat))],[.mk 43 [.int 0,.str []]]⟩) (fun q=>q.j) ⟨text.length,0,Nat.le_refl _,.inl ⟨rfl,rfl⟩⟩ [5] ?_ ?_
     ·repeat ((conv=>whnf);refine zb ?_)
      conv=>whnf
      exact zh (congrArg SV.str (List.take_of_length_le (Nat.le_refl _)).symm)
     ·intro q
      have hj:=q.hj
      have hq:=q.h
      have htl:(List.take q.j text).length=q.j:=by rw [List.length_take];omega
      by_cases hst:q.r=0∧0<q.j
      ·obtain ⟨hr0,hj0⟩:=hst
       have hdr:(List.take q.j text).getD (((List.take q.j text).length:Int)-1).toNat 0=text.getD (q.j-1) 0:=by
         rw [htl,show ((q.j:Int)-1).toNat=q.j-1 by omega,List.getD_eq_getElem?_getD,List.getElem?_take,if_pos (by omega),←List.getD_eq_getElem?_getD]
       have hdt:List.take (((List.take q.j text).length:Int)-1).toNat (List.take q.j text)=List.take (q.j-1) text:=by
         rw [htl,show ((q.j:Int)-1).toNat=q.j-1 by omega,List.take_take,Nat.min_eq_left (by omega)]
       refine za ?_
       refine ⟨⟨q.j-1,(text.getD (q.j-1) 0).toNat,by omega,zw2 (by omega) hj0 hq hr0⟩,[0],by show q.j-1<q.j;omega,?_⟩
       repeat ((conv=>whnf);refine zb ?_)
       conv=>whnf
       refine zq (congrArg SV.str hdt) ?_
       repeat ((conv=>whnf);refine zb ?_)
       conv=>whnf
       exact zh (congrArg (fun x:UInt8=>SV.int (x.toNat:Nat)) hdr)
      ·have hz:q.r=0:=by
         rcases hq with h|h
         ·exact h.1
         ·omega
       refine za ?_
       exact ze (hp':= []) [] rfl
    ·obtain ⟨j0,hj0⟩: ∃j0,lnz text text.length=j0+1:=⟨lnz text text.length-1,by omega⟩
     have hlz:=zr9 text text.length
     obtain ⟨g2,g3⟩:=z9y (z:=z.toNat) (show j0<text.length by omega) hj0
     rw [←hinn] at g2 g3
     obtain ⟨r0,hr0⟩: ∃r,r=(text.getD j0 0).toNat:=⟨_,rfl⟩
     rw [←hr0] at g2
     rw [if_neg hl0,g2] at hiA
     have hne:=zx6 text text.length (by omega)
     rw [hj0,Nat.add_sub_cancel] at hne
     have hr1:r0≠0:=by rw [hr0];exact fun h=>hne (UInt8.toNat_inj.1 h)
     have hend: ∀q:ZT text,¬(q.r=0∧0<q.j)→q.r≠0∧q.j=j0∧q.r=r0:=fun q hst=>by
       rcases q.h with h|h
       ·have:q.j=0:=by omega
        rw [this] at h
        have e0:lnz text 0=0:=by unfold lnz;rfl
        omega
       ·have:q.j=j0:=by omega
        rw [this] at h
        exact ⟨h.1,this,by rw [hr0];exact h.2.2⟩
     by_cases hg:(r0:Int)=21∨(r0:Int)=22∨(r0:Int)=23
     ·rw [if_pos hg] at hiA
      have d6:decide (iA inn= -1)=true:=decide_eq_true hiA
      repeat ((conv=>whnf);first|refine zu ?_|refine zi ?_|refine zj ?_|refine zb ?_|refine zw (by first|exact d6) ?_|refine zo (by first|exact d6) ?_|refine zn (by first|exact d6) ?_)
      conv=>whnf
      rw [hk0,g2,g3]
      conv=>whnf
      refine zp (ZT text) (fun q=>⟨[(14,.int 0),(16,.int 0),(23,.int 0),(24,.ptr 0 0 0 []),(25,.bool true),(26,.int (-1)),(27,.str (text.take q.j)),(28,.int (q.r:Nat))],[.mk 43 [.int (r0:Int),.str (List.take j0 text)]]⟩) (fun q=>q.j) ⟨text.length,0,Nat.le_refl _,.inl ⟨rfl,rfl⟩⟩ [5] ?_ ?_
      ·repeat ((conv=>whnf);refine zb ?_)
       conv=>whnf
       exact zh (congrArg SV.str (List.take_of_length_le (Nat.le_refl _)).symm)
      ·intro q
       have hj:=q.hj
       have hq:=q.h
       have htl:(List.take q.j text).length=q.j:=by rw [List.length_take];omega
       by_cases hst:q.r=0∧0<q.j
       ·obtain ⟨hr0,hj0⟩:=hst
        have hdr:(List.take q.j text).getD (((List.take q.j text).length:Int)-1).toNat 0=text.getD (q.j-1) 0:=by
          rw [htl,show ((q.j:Int)-1).toNat=q.j-1 by omega,List.getD_eq_getElem?_getD,List.getElem?_take,if_pos (by omega),←List.getD_eq_getElem?_getD]
        have hdt:List.take (((List.take q.j text).length:Int)-1).toNat (List.take q.j text)=List.take (q.j-1) text:=by
          rw [htl,show ((q.j:Int)-1).toNat=q.j-1 by omega,List.take_take,Nat.min_eq_left (by omega)]
        refine za ?_
        refine ⟨⟨q.j-1,(text.getD (q.j-1) 0).toNat,by omega,zw2 (by omega) hj0 hq hr0⟩,[0],by show q.j-1<q.j;omega,?_⟩
        repeat ((conv=>whnf);refine zb ?_)
        conv=>whnf
        refine zq (congrArg SV.str hdt) ?_
        repeat ((conv=>whnf);refine zb ?_)
        conv=>whnf
        exact zh (congrArg (fun x:UInt8=>SV.int (x.toNat:Nat)) hdr)
       ·obtain ⟨hr,hjj,hrr⟩:=hend q hst
        rw [hjj,hrr]
        clear hq hst htl hj
        have d0:decide ((r0:Int)=0)=false:=decide_eq_false (by omega)
        repeat ((conv=>whnf);first|refine zu ?_|refine zi ?_|refine zj ?_|refine zb ?_|refine zw (by first|(rw [d0];rfl)) ?_|refine zo (by first|(rw [d0];rfl)) ?_|refine zn (by first|(rw [d0];rfl)) ?_)
        conv=>whnf
        refine yv (hp':= []) [] rfl ?_
        conv=>whnf
        exact zh (congrArg SV.bool (by simp))
     ·rw [if_neg hg] at hiA
      have d6:decide (iA inn= -1)=false:=decide_eq_false (by omega)
      repeat ((conv=>whnf);first|refine zu ?_|refine zi ?_|refine zj ?_|refine zb ?_|refine zw (by first|exact d6) ?_|refine zo (by first|exact d6) ?_|refine zn (by first|exact d6) ?_)
      conv=>whnf
      rw [hiA,hk0]
      conv=>whnf
      refine zp (ZT text) (fun q=>⟨[(14,.int 0),(16,.int 0),(23,.int 0),(24,.ptr 0 0 0 []),(25,.bool false),(26,.int 10),(27,.str (text.take q.j)),(28,.int (q.r:Nat))],[.mk 43 [.int 0,.str []]]⟩) (fun q=>q.j) ⟨text.length,0,Nat.le_refl _,.inl ⟨rfl,rfl⟩⟩ [5] ?_ ?_
      ·repeat ((conv=>whnf);refine zb ?_)
       conv=>whnf
       exact zh (congrArg SV.str (List.take_of_length_le (Nat.le_refl _)).symm)
      ·intro q
       have hj:=q.hj
       have hq:=q.h
       have htl:(List.take q.j text).length=q.j:=by rw [List.length_take];omega
       by_cases hst:q.r=0∧0<q.j
       ·obtain ⟨hr0,hj0⟩:=hst
        have hdr:(List.take q.j text).getD (((List.take q.j text).length:Int)-1).toNat 0=text.getD (q.j-1) 0:=by
          rw [htl,show ((q.j:Int)-1).toNat=q.j-1 by omega,List.getD_eq_getElem?_getD,List.getElem?_take,if_pos (by omega),←List.getD_eq_getElem?_getD]
        have hdt:List.take (((List.take q.j text).length:Int)-1).toNat (List.take q.j text)=List.take (q.j-1) text:=by
          rw [htl,show ((q.j:Int)-1).toNat=q.j-1 by omega,List.take_take,Nat.min_eq_left (by omega)]
        refine za ?_
        refine ⟨⟨q.j-1,(text.getD (q.j-1) 0).toNat,by omega,zw2 (by omega) hj0 hq hr0⟩,[0],by show q.j-1<q.j;omega,?_⟩
        repeat ((conv=>whnf);refine zb ?_)
        conv=>whnf
        refine zq (congrArg SV.str hdt) ?_
        repeat ((conv=>whnf);refine zb ?_)
        conv=>whnf
        exact zh (congrArg (fun x:UInt8=>SV.int (x.toNat:Nat)) hdr)
       ·obtain ⟨hr,hjj,hrr⟩:=hend q hst
        rw [hjj,hrr]
        have h3:(r0:Int)<21∨23<(r0:Int):=by omega
        clear hq hst htl hj
        have d0:decide ((r0:Int)=0)=false:=decide_eq_false (by omega)
        rcases h3 with h3|h3
        ·repeat ((conv=>whnf);first|refine zu ?_|refine zi ?_|refine zj ?_|refine zb ?_|refine zw (by first|(rw [d0];rfl)) ?_|refine zo (by first|(rw [d0];rfl)) ?_|refine zn (by first|(rw [d0];rfl)) ?_)
         conv=>whnf
         exact ze (hp':= []) [] rfl
        ·repeat ((conv=>whnf);first|refine zu ?_|refine zi ?_|refine zj ?_|refine zb ?_|refine zw (by first|(rw [d0];rfl)) ?_|refine zo (by first|(rw [d0];rfl)) ?_|refine zn (by first|(rw [d0];rfl)) ?_)
         conv=>whnf
         exact ze (hp':= []) [] rfl
   ·have hkne:UInt8.ofInt k≠0:=fun e=>by rw [e] at hk8;exact hk0 hk8.symm
    obtain ⟨g1,g2,g3⟩:=yb9 (text:=text) z.toNat hkne
    rw [←hinn] at g1 g2 g3
    rw [hk8] at g2
    rw [g1,if_neg (by omega),g2] at hiA
    by_cases hg:k=21∨k=22∨k=23
    ·rw [if_pos hg] at hiA
     have d6:decide (iA inn= -1)=true:=decide_eq_true hiA
     repeat ((conv=>whnf);first|refine zu ?_|refine zi ?_|refine zj ?_|refine zb ?_|refine zw (by first|exact d6) ?_|refine zo (by first|exact d6) ?_|refine zn (by first|exact d6) ?_)
     conv=>whnf
     rw [g2,g3]
     refine zp Unit (fun _=>⟨[(14,.int 0),(16,.int 0),(23,.int 0),(24,.ptr 0 0 0 []),(25,.bool true),(26,.int (-1)),(27,.str text),(28,.int k)],[.mk 43 [.int k,.str text]]⟩) (fun _=>0) () [5] ?_ ?_
     ·exact zt
     ·intro _
      refine za ?_
      refine yv (hp':= []) [] rfl ?_
      conv=>whnf
      exact zh (congrArg SV.bool (by simp))
    ·rw [if_neg hg] at hiA
     have d6:decide (iA inn= -1)=false:=decide_eq_false (by omega)
     repeat ((conv=>whnf);first|refine zu ?_|refine zi ?_|refine zj ?_|refine zb ?_|refine zw (by first|exact d6) ?_|refine zo (by first|exact d6) ?_|refine zn (by first|exact d6) ?_)
     conv=>whnf
     rw [hiA]
     refine zp Unit (fun _=>⟨[(14,.int 0),(16,.int 0),(23,.int 0),(24,.ptr 0 0 0 []),(25,.bool false),(26,.int 10),(27,.str text),(28,.int k)],[.mk 43 [.int 0,.str []]]⟩) (fun _=>0) () [5] ?_ ?_
     ·exact zt
     ·intro _
      have h3:k<21∨23<k:=by omega
      rcases h3 with h3|h3
      ·refine za ?_
       exact ze (hp':= []) [] rfl
      ·refine za ?_
       exact ze (hp':= []) [] rfl
theorem zsb (W:World) (which:Int) (_: -9223372036854775808≤which∧which≤9223372036854775807) (secret:List UInt8) (hs:secret.length≤140737488351232) (text:List UInt8) (htx:text.length≤140737488351232) (kind:Int) (_: -9223372036854775808≤kind∧kind≤9223372036854775807) (zeros:Int) (_: -9223372036854775808≤zeros∧zeros≤9223372036854775807):
    zs0 (z7o f4.ntmps z23 zmt W []) pl4 (zk9 f4) f4.results.toList [.int which,.str secret,.str text,.int kind,.int zeros] [] (fun r _=>r= .bool true):=
  zt2 W which secret text kind zeros hs htx
end Go.Sym.Z
