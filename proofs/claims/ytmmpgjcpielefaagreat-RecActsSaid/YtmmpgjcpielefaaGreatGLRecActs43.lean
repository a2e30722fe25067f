/-
  Contracts of functions of the program, each said of symbolic values, and plain laws; no condition beyond each statement's own.
-/
import Derived.Test.YtmmpgjcpielefaaGreatGLRecActs42
import Derived.Test.YtmmpgjcpielefaaGreatGLRecActs17
set_option linter.unusedSimpArgs false
set_option linter.unusedVariables false
namespace Go.Sym.Z
open Go Go.Proofs.Tryz Go.Sym.Lp Go.Sym.Cha Go.Sym.Sha Go.Sym.Hk Go.Sym.Gcm
set_option maxRecDepth 100000
def pl3:List (Nat×List PStep):= [(23,[⟨0,[]⟩,⟨3,[0]⟩,⟨4,[0,3]⟩,⟨5,[0,3]⟩,⟨6,[0,3,4,5]⟩,⟨7,[0,3,4,5]⟩,⟨1,[3,4,5,6,7]⟩,⟨2,[3,4,5,6,7]⟩,⟨8,[2]⟩,⟨9,[]⟩,⟨10,[]⟩,⟨11,[]⟩,⟨12,[]⟩,⟨13,[]⟩,⟨14,[]⟩,⟨15,[]⟩,⟨16,[]⟩,⟨17,[]⟩,⟨18,[]⟩,⟨19,[]⟩]),(27,[⟨0,[]⟩,⟨3,[0]⟩,⟨4,[0,3]⟩,⟨5,[0,3]⟩,⟨6,[0,3,4,5]⟩,⟨7,[0,3,4,5]⟩,⟨1,[3,4,5,6,7]⟩,⟨2,[3,4,5,6,7]⟩,⟨8,[2]⟩,⟨9,[]⟩])]
def zai:List (Nat×TyI):= [(3,ty3),(4,ty4),(5,ty5),(9,ty9),(48,zd5),(51,zee),(113,xv),(99,xo),(103,zfk),(68,zll),(70,zld),(104,ze4),(74,zl6),(23,zl8),(43,zjw),(78,zmy),(27,zmu),(33,zc3),(22,zpr)]
theorem yat: ∀t i,xa zai t=some i→yx prog t i:=(ze zcs (ze zc1 (ze zct (ze zcw (ze zbj (ze zbi (ze zbg (ze zca (ze zol (ze zsw (ze zus (ze zo2 (ze zst (ze ztb (ze zm9 (ze z1p (ze z06 (ze ty33_ok (ze ycb zat)))))))))))))))))))
def yw:List (Nat×Spec):= [(10,z0d),(12,z0s),(20,zsl),(14,zuo),(22,zuu),(18,zj1),(16,zm1),(24,zsr),(13,zno),(11,zud),(17,zm7),(19,zko),(21,zut),(15,zui),(23,zuj),(25,zth)]
theorem z3k: ∀f S,xa yw f=some S→zp prog f S:=zc z82 (zc z5e (zc zzx (zc z00 (zc z1l (zc zq1 (zc zvg (zc z0i (zc z6a (zc yan (zc z6s (zc z33 (zc yay (zc yap (zc yaf (zc ya4 zi)))))))))))))))
def zal (nt:Nat) (ty:List (Nat×TyI)) (fs:List (Nat×Spec)) (w:World) (rs:List Row):Ctx:={nt:=nt,ty:=ty,fn:=fs,E:=fun w'=>Ext (fun _=>False) w w',ext:=x3 rs}
def cs1:Code→Code| .seq a _=>a|c=>c
def cs2:Code→Code| .seq _ b=>b|c=>c
def cin:Code→Code| .block _ b=>b| .loop b=>b| .scope b=>b|c=>c
noncomputable def OBc:Code:=cin (cin (cs2 (cs1 (cs2 (cs2 (cs2 (cs2 (cs2 (zp2 f3)))))))))
noncomputable def R9c:Code:=cs2 (cs2 OBc)
noncomputable def RSc:Code:=cs2 (cs2 (cin (cs1 (cs2 OBc))))
noncomputable def LBc:Code:=cin (cin (cs2 (cs1 RSc)))
structure Kq where
  w:Int
  key:List UInt8
  iv:List UInt8
  m:Int
structure RQ where
  W:Option Kq
  R:Option Kq
  rm:Int
  held:List UInt8
  f:Int
def kOK (x:Option Kq) (B:Nat):Prop:= ∀k,x=some k→su k.w∧k.key.length=aSz k.w∧k.iv.length=12∧0≤k.m∧k.m≤(B:Int)
structure RI (q:RQ) (B:Nat):Prop where
  hW:kOK q.W B
  hR:kOK q.R B
  hm:0≤q.rm∧q.rm≤(B:Int)
  he:q.f= -1→ ∀k,q.R=some k→q.rm=k.m
  hf:q.f= -1∨0≤q.f
  hl:q.held.length≤B*281474976710656
theorem zkd {x:Option Kq} {B C:Nat} (h:kOK x B) (hBC:B≤C):kOK x C:=fun k hk=>by
  obtain ⟨h1,h2,h3,h4,h5⟩:=h k hk
  exact ⟨h1,h2,h3,h4,by omega⟩
theorem RI.mono {q:RQ} {B C:Nat} (h:RI q B) (hBC:B≤C):RI q C:=
  ⟨zkd h.hW hBC,zkd h.hR hBC,⟨h.hm.1,by have:=h.hm.2;omega⟩,h.he,h.hf,Nat.le_trans h.hl (Nat.mul_le_mul_right _ hBC)⟩
def kB (k:Kq):Blk:= .mk 103 [.int k.w,.str k.key,.str k.iv,.int k.m]
def rB (p:Int) (q:RQ):Blk:=match q.R,q.W with
  |none,none=> .mk 78 [.int p,.int 0,.int 0,.str [],.str [],.int 0,.bool false,.int 0,.str [],.str [],.int 0,.bool false,.str q.held,.int q.f]
  |none,some k=> .mk 78 [.int p,.int 0,.int 0,.str [],.str [],.int 0,.bool false,.int k.w,.str k.key,.str k.iv,.int k.m,.bool true,.str q.held,.int q.f]
  |some r,none=> .mk 78 [.int p,.int 0,.int r.w,.str r.key,.str r.iv,.int q.rm,.bool true,.int 0,.str [],.str [],.int 0,.bool false,.str q.held,.int q.f]
  |some r,some k=> .mk 78 [.int p,.int 0,.int r.w,.str r.key,.str r.iv,.int q.rm,.bool true,.int k.w,.str k.key,.str k.iv,.int k.m,.bool true,.str q.held,.int q.f]
def hpQ (p:Int) (q:RQ):List Blk:=match q.W,q.R with
  |none,none=> [.mk 74 [.int p,.nilptr,.nilptr,.str q.held,.int q.f],rB p q]
  |some k,none=> [.mk 74 [.int p,.ptr 1 0 0 [],.nilptr,.str q.held,.int q.f],kB k,rB p q]
  |none,some r=> [.mk 74 [.int p,.nilptr,.ptr 1 0 0 [],.str q.held,.int q.f],kB r,rB p q]
  |some k,some r=> [.mk 74 [.int p,.ptr 1 0 0 [],.ptr 2 0 0 [],.str q.held,.int q.f],kB k,kB r,rB p q]
def tmQ (a:Option Addr) (n c:Nat) (i:Nat) (q:RQ):List (Nat×SV):=match q.W,q.R with
  |none,none=> [(1,.xsl a n c),(5,.ptr 0 0 0 []),(7,.ptr 1 0 0 []),(9,.int (i:Int))]
  |some _,none=> [(1,.xsl a n c),(5,.ptr 0 0 0 []),(7,.ptr 2 0 0 []),(9,.int (i:Int))]
  |none,some _=> [(1,.xsl a n c),(5,.ptr 0 0 0 []),(7,.ptr 2 0 0 []),(9,.int (i:Int))]
  |some _,some _=> [(1,.xsl a n c),(5,.ptr 0 0 0 []),(7,.ptr 3 0 0 []),(9,.int (i:Int))]
def tmK (a:Option Addr) (n c:Nat) (i k:Nat) (q:RQ):List (Nat×SV):=(17,.int (k:Int)) ::tmQ a n c i q
noncomputable def N1c (Γ:Ctx) (D:List (Nat×List PStep)) (N:St→Prop) (X:Nat→St→Prop) (R:St→Prop):St→Prop:=fun st=>match st with|⟨tm,hp⟩=>vc Γ D 0 R9c tm hp N X R
noncomputable def X1c (Γ:Ctx) (D:List (Nat×List PStep)) (N:St→Prop) (X:Nat→St→Prop) (R:St→Prop):Nat→St→Prop:=fun i st=>match Nat.beq i 1 with|true=>N1c Γ D N X R st|false=>X i st
noncomputable def N2c (Γ:Ctx) (D:List (Nat×List PStep)) (N:St→Prop) (X:Nat→St→Prop) (R:St→Prop):St→Prop:=fun st=>match st with|⟨tm,hp⟩=>vc Γ D 0 (cs2 RSc) tm hp (N1c Γ D N X R) (X1c Γ D N X R) R
noncomputable def X3c (Γ:Ctx) (D:List (Nat×List PStep)) (N:St→Prop) (X:Nat→St→Prop) (R:St→Prop):Nat→St→Prop:=fun i st=>match Nat.beq i 3 with|true=>N2c Γ D N X R st|false=>X1c Γ D N X R i st
theorem ycv {h:List UInt8} (ha:hA h true= -1) (hk: ¬hK h=20):hK h=23:=by
  by_cases h1:yf (hK h)
  ·by_cases h2:hK h=21∨hK h=22
   ·exfalso
    have e:hA h true=22∨hA h true=10:=by
      unfold hA
      rw [if_pos h1]
      by_cases h3:(if true=true∧hK h=23 then (16640:Int) else 16384)<hN h
      ·left;rw [if_pos h3]
      ·right;rw [if_neg h3,if_pos ⟨rfl,h2⟩]
    rw [ha] at e
    exact absurd e (by decide)
   ·unfold yf at h1;omega
  ·exfalso
   have e:hA h true=10:=by unfold hA;rw [if_neg h1]
   rw [ha] at e
   exact absurd e (by decide)
theorem z80 (h:List UInt8):(hR h).length≤h.length:=by unfold hR;rw [List.length_drop];omega
theorem zne {W R:Option Kq} {rm:Int} {held:List UInt8} {B C:Nat} (h:RI ⟨W,R,rm,held, -1⟩ B) (hBC:B≤C):RI ⟨W,R,rm,hR held, -1⟩ C:=
  have h:=h.mono hBC
  ⟨h.hW,h.hR,h.hm,h.he,h.hf,Nat.le_trans (z80 held) h.hl⟩
theorem ze9 {W R:Option Kq} {rm:Int} {held:List UInt8} {B C:Nat} (h:RI ⟨W,R,rm,held, -1⟩ B) (hBC:B≤C) {f:Int} (hf:0≤f):RI ⟨W,R,rm,held,f⟩ C:=
  have h:=h.mono hBC
  ⟨h.hW,h.hR,h.hm,fun e=>by simp only at e;omega,.inr hf,h.hl⟩
theorem z1i {w:Int} {key iv:List UInt8} {m:Int} {B:Nat} (h:kOK (some ⟨w,key,iv,m⟩) B):kOK (some ⟨w,key,iv,m+1⟩) (B+1):=fun k hk=>by
  cases hk
  obtain ⟨h1,h2,h3,h4,h5⟩:=h _ rfl
  simp only at h1 h2 h3 h4 h5 ⊢
  exact ⟨h1,h2,h3,by omega,by omega⟩
theorem zr3 {W:Option Kq} {w:Int} {key iv:List UInt8} {m rm:Int} {held:List UInt8} {B:Nat} (h:RI ⟨W,some ⟨w,key,iv,m⟩,rm,held, -1⟩ B):RI ⟨W,some ⟨w,key,iv,m+1⟩,rm+1,hR held, -1⟩ (B+1):=
  ⟨zkd h.hW (Nat.le_succ _),z1i h.hR,by have:=h.hm;simp only at this ⊢;omega,fun _ k hk=>by cases hk;have:=h.he rfl _ rfl;simp only at this ⊢;omega,.inl rfl,Nat.le_trans (z80 held) (Nat.le_trans h.hl (Nat.mul_le_mul_right _ (Nat.le_succ _)))⟩
theorem z9c {W:Option Kq} {w:Int} {key iv:List UInt8} {m rm:Int} {held:List UInt8} {B:Nat} (h:RI ⟨W,some ⟨w,key,iv,m⟩,rm,held, -1⟩ B) {f:Int} (hf:0≤f):RI ⟨W,some ⟨w,key,iv,m+1⟩,rm,held,f⟩ (B+1):=
  ⟨zkd h.hW (Nat.le_succ _),z1i h.hR,by have:=h.hm;simp only at this ⊢;omega,fun e=>by simp only at e;omega,.inr hf,Nat.le_trans h.hl (Nat.mul_le_mul_right _ (Nat.le_succ _))⟩
theorem RI.ky {q:RQ} {B:Nat} (h:RI q B) (hB:B≤1000000000):(∀w key iv m,q.W=some ⟨w,key,iv,m⟩→za3 w key iv m)∧(∀w key iv m,q.R=some ⟨w,key,iv,m⟩→za3 w key iv m∧za3 w key iv q.rm):=by
  refine ⟨fun w key iv m e=>?_,fun w key iv m e=>?_⟩
  ·obtain ⟨h1,h2,h3,h4,h5⟩:=h.hW _ e
   simp only at h1 h2 h3 h4 h5
   exact ⟨h1,h2,h3,h4,by omega⟩
  ·obtain ⟨h1,h2,h3,h4,h5⟩:=h.hR _ e
   simp only at h1 h2 h3 h4 h5
   have:=h.hm
   exact ⟨⟨h1,h2,h3,h4,by omega⟩,h1,h2,h3,this.1,by omega⟩
attribute [local irreducible] za2 exF kyF ivF xi zau y0 inL ncF lnz iA hA hN hK yq zao hO hP hR hT iK yg hdF
set_option maxHeartbeats 16000000 in
theorem z84 (W:World) (rs:List Row) (p:Int) (a:Option Addr) (n c:Nat) (i k:Nat) (hi:i<40) (hk:k≤30) (rm:Int) (held:List UInt8) (f:Int) (hq:RI ⟨none,none,rm,held,f⟩ (31*i+1+k)) (N' N:St→Prop) (X:Nat→St→Prop) (R:St→Prop)
    (HN': ∀(rm:Int) (held:List UInt8) (f:Int),RI ⟨none,none,rm,held,f⟩ (31*i+1+(k+1))→k<30→ ∀gl st,xt 0 gl st.tm st.hp (tmK a n c i (k+1) ⟨none,none,rm,held,f⟩) (hpQ p ⟨none,none,rm,held,f⟩) True→N' st)
    (HN: ∀(rm:Int) (held:List UInt8) (f:Int),RI ⟨none,none,rm,held,f⟩ (31*(i+1))→ ∀gl st,xt 0 gl st.tm st.hp (tmQ a n c (i+1) ⟨none,none,rm,held,f⟩) (hpQ p ⟨none,none,rm,held,f⟩) True→N st):
    vc (zal f3.ntmps zai yw W rs) pl3 0 LBc (tmK a n c i k ⟨none,none,rm,held,f⟩) (hpQ p ⟨none,none,rm,held,f⟩) N' (X3c (zal f3.ntmps zai yw W rs) pl3 N X R) R:=by
  have hl:=hq.hl
  have hf0:=hq.hf
  have hky:=hq.ky (by omega)
  have hk3:(k:Int)≤30:=by omega
  simp only at hl hf0
  have hlb:held.length<9223372036854775808:=by omega
  have hpr:(false=true→za3 0 [] [] 0)∧(f= -1∨0≤f)∧held.length<9223372036854775808:=⟨fun h=>Bool.noConfusion h,hf0,hlb⟩
  by_cases h30:k<30
  ·by_cases hfm:f= -1
   ·subst hfm
    by_cases h5:held.length<5
    ·have d1:decide (held.length<5)=true:=decide_eq_true h5
     repeat ((conv=>whnf);first|refine zq ?_|refine zg ?_|refine zf ?_|refine zb ?_|refine zr (by first|exact d1|(rw [d1];rfl)) ?_|refine zj (by first|exact d1|(rw [d1];rfl)) ?_|refine zk (by first|exact d1|(rw [d1];rfl)) ?_)
     conv=>whnf
     refine HN rm held (-1) (hq.mono (by omega)) [0,1] _ ?_
     exact zo
    ·have d1:decide (held.length<5)=false:=decide_eq_false h5
     by_cases ha:hA held false= -1
     ·have d2:decide (hA held false= -1)=true:=decide_eq_true ha
      by_cases hs:(held.length:Int)<5+hN held
      ·have d3:decide ((held.length:Int)<5+hN held)=true:=decide_eq_true hs
       repeat ((conv=>whnf);first|refine zq ?_|refine zg ?_|refine zf ?_|refine zb ?_|refine zr (by first|exact d1|(rw [d1];rfl)|exact d2|(rw [d2];rfl)|exact d3|(rw [d3];rfl)) ?_|refine zj (by first|exact d1|(rw [d1];rfl)|exact d2|(rw [d2];rfl)|exact d3|(rw [d3];rfl)) ?_|refine zk (by first|exact d1|(rw [d1];rfl)|exact d2|(rw [d2];rfl)|exact d3|(rw [d3];rfl)) ?_)
       conv=>whnf
       refine HN rm held (-1) (hq.mono (by omega)) [0,1] _ ?_
       exact zo
      ·have d3:decide ((held.length:Int)<5+hN held)=false:=decide_eq_false hs
       repeat ((conv=>whnf);first|refine zq ?_|refine zg ?_|refine zf ?_|refine zb ?_|refine zr (by first|exact d1|(rw [d1];rfl)|exact d2|(rw [d2];rfl)|exact d3|(rw [d3];rfl)) ?_|refine zj (by first|exact d1|(rw [d1];rfl)|exact d2|(rw [d2];rfl)|exact d3|(rw [d3];rfl)) ?_|refine zk (by first|exact d1|(rw [d1];rfl)|exact d2|(rw [d2];rfl)|exact d3|(rw [d3];rfl)) ?_)
       conv=>whnf
       refine HN' rm (hR held) (-1) (zne hq (by omega)) h30 [0,1] _ ?_
       exact zo
     ·have d2:decide (hA held false= -1)=false:=decide_eq_false ha
      have ha0:=(zoh held false).resolve_left ha
      repeat ((conv=>whnf);first|refine zq ?_|refine zg ?_|refine zf ?_|refine zb ?_|refine zr (by first|exact d1|(rw [d1];rfl)|exact d2|(rw [d2];rfl)) ?_|refine zj (by first|exact d1|(rw [d1];rfl)|exact d2|(rw [d2];rfl)) ?_|refine zk (by first|exact d1|(rw [d1];rfl)|exact d2|(rw [d2];rfl)) ?_)
      conv=>whnf
      refine HN rm held (hA held false) (ze9 hq (by omega) ha0) [0,1] _ ?_
      exact zo
   ·have d0:decide (f= -1)=false:=decide_eq_false hfm
    repeat ((conv=>whnf);first|refine zq ?_|refine zg ?_|refine zf ?_|refine zb ?_|refine zr (by first|exact d0|(rw [d0];rfl)) ?_|refine zj (by first|exact d0|(rw [d0];rfl)) ?_|refine zk (by first|exact d0|(rw [d0];rfl)) ?_)
    conv=>whnf
    refine HN rm held f (hq.mono (by omega)) [0,1] _ ?_
    exact zo
  ·have h31:k=30:=by omega
   subst h31
   refine za ?_
   refine HN rm held f (hq.mono (by omega)) [0,1] _ ?_
   exact zo
set_option maxHeartbeats 16000000 in
theorem z4g (W:World) (rs:List Row) (p:Int) (a:Option Addr) (n c:Nat) (i k:Nat) (hi:i<40) (hk:k≤30) (aw:Int) (ak ai:List UInt8) (am:Int) (rm:Int) (held:List UInt8) (f:Int) (hq:RI ⟨some ⟨aw,ak,ai,am⟩,none,rm,held,f⟩ (31*i+1+k)) (N' N:St→Prop) (X:Nat→St→Prop) (R:St→Prop)
    (HN': ∀(rm:Int) (held:List UInt8) (f:Int),RI ⟨some ⟨aw,ak,ai,am⟩,none,rm,held,f⟩ (31*i+1+(k+1))→k<30→ ∀gl st,xt 0 gl st.tm st.hp (tmK a n c i (k+1) ⟨some ⟨aw,ak,ai,am⟩,none,rm,held,f⟩) (hpQ p ⟨some ⟨aw,ak,ai,am⟩,none,rm,held,f⟩) True→N' st)
    (HN: ∀(rm:Int) (held:List UInt8) (f:Int),RI ⟨some ⟨aw,ak,ai,am⟩,none,rm,held,f⟩ (31*(i+1))→ ∀gl st,xt 0 gl st.tm st.hp (tmQ a n c (i+1) ⟨some ⟨aw,ak,ai,am⟩,none,rm,held,f⟩) (hpQ p ⟨some ⟨aw,ak,ai,am⟩,none,rm,held,f⟩) True→N st):
    vc (zal f3.ntmps zai yw W rs) pl3 0 LBc (tmK a n c i k ⟨some ⟨aw,ak,ai,am⟩,none,rm,held,f⟩) (hpQ p ⟨some ⟨aw,ak,ai,am⟩,none,rm,held,f⟩) N' (X3c (zal f3.ntmps zai yw W rs) pl3 N X R) R:=by
  have hl:=hq.hl
  have hf0:=hq.hf
  have hky:=hq.ky (by omega)
  have hk3:(k:Int)≤30:=by omega
  simp only at hl hf0
  have hlb:held.length<9223372036854775808:=by omega
  have hpr:(false=true→za3 0 [] [] 0)∧(f= -1∨0≤f)∧held.length<9223372036854775808:=⟨fun h=>Bool.noConfusion h,hf0,hlb⟩
  by_cases h30:k<30
  ·by_cases hfm:f= -1
   ·subst hfm
    by_cases h5:held.length<5
    ·have d1:decide (held.length<5)=true:=decide_eq_true h5
     repeat ((conv=>whnf);first|refine zq ?_|refine zg ?_|refine zf ?_|refine zb ?_|refine zr (by first|exact d1|(rw [d1];rfl)) ?_|refine zj (by first|exact d1|(rw [d1];rfl)) ?_|refine zk (by first|exact d1|(rw [d1];rfl)) ?_)
     conv=>whnf
     refine HN rm held (-1) (hq.mono (by omega)) [0,1,2] _ ?_
     exact zo
    ·have d1:decide (held.length<5)=false:=decide_eq_false h5
     by_cases ha:hA held false= -1
     ·have d2:decide (hA held false= -1)=true:=decide_eq_true ha
      by_cases hs:(held.length:Int)<5+hN held
      ·have d3:decide ((held.length:Int)<5+hN held)=true:=decide_eq_true hs
       repeat ((conv=>whnf);first|refine zq ?_|refine zg ?_|refine zf ?_|refine zb ?_|refine zr (by first|exact d1|(rw [d1];rfl)|exact d2|(rw [d2];rfl)|exact d3|(rw [d3];rfl)) ?_|refine zj (by first|exact d1|(rw [d1];rfl)|exact d2|(rw [d2];rfl)|exact d3|(rw [d3];rfl)) ?_|refine zk (by first|exact d1|(rw [d1];rfl)|exact d2|(rw [d2];rfl)|exact d3|(rw [d3];rfl)) ?_)
       conv=>whnf
       refine HN rm held (-1) (hq.mono (by omega)) [0,1,2] _ ?_
       exact zo
      ·have d3:decide ((held.length:Int)<5+hN held)=false:=decide_eq_false hs
       repeat ((conv=>whnf);first|refine zq ?_|refine zg ?_|refine zf ?_|refine zb ?_|refine zr (by first|exact d1|(rw [d1];rfl)|exact d2|(rw [d2];rfl)|exact d3|(rw [d3];rfl)) ?_|refine zj (by first|exact d1|(rw [d1];rfl)|exact d2|(rw [d2];rfl)|exact d3|(rw [d3];rfl)) ?_|refine zk (by first|exact d1|(rw [d1];rfl)|exact d2|(rw [d2];rfl)|exact d3|(rw [d3];rfl)) ?_)
       conv=>whnf
       refine HN' rm (hR held) (-1) (zne hq (by omega)) h30 [0,1,2] _ ?_
       exact zo
     ·have d2:decide (hA held false= -1)=false:=decide_eq_false ha
      have ha0:=(zoh held false).resolve_left ha
      repeat ((conv=>whnf);first|refine zq ?_|refine zg ?_|refine zf ?_|refine zb ?_|refine zr (by first|exact d1|(rw [d1];rfl)|exact d2|(rw [d2];rfl)) ?_|refine zj (by first|exact d1|(rw [d1];rfl)|exact d2|(rw [d2];rfl)) ?_|refine zk (by first|exact d1|(rw [d1];rfl)|exact d2|(rw [d2];rfl)) ?_)
      conv=>whnf
      refine HN rm held (hA held false) (ze9 hq (by omega) ha0) [0,1,2] _ ?_
      exact zo
   ·have d0:decide (f= -1)=false:=decide_eq_false hfm
    repeat ((conv=>whnf);first|refine zq ?_|refine zg ?_|refine zf ?_|refine zb ?_|refine zr (by first|exact d0|(rw [d0];rfl)) ?_|refine zj (by first|exact d0|(rw [d0];rfl)) ?_|refine zk (by first|exact d0|(rw [d0];rfl)) ?_)
    conv=>whnf
    refine HN rm held f (hq.mono (by omega)) [0,1,2] _ ?_
    exact zo
  ·have h31:k=30:=by omega
   subst h31
   refine za ?_
   refine HN rm held f (hq.mono (by omega)) [0,1,2] _ ?_
   exact zo
set_option maxHeartbeats 16000000 in
theorem z5j (W:World) (rs:List Row) (p:Int) (a:Option Addr) (n c:Nat) (i k:Nat) (hi:i<40) (hk:k≤30) (bw:Int) (bk bi:List UInt8) (bm:Int) (rm:Int) (held:List UInt8) (f:Int) (hq:RI ⟨none,some ⟨bw,bk,bi,bm⟩,rm,held,f⟩ (31*i+1+k)) (N' N:St→Prop) (X:Nat→St→Prop) (R:St→Prop)
    (HN': ∀(bm:Int) (rm:Int) (held:List UInt8) (f:Int),RI ⟨none,some ⟨bw,bk,bi,bm⟩,rm,held,f⟩ (31*i+1+(k+1))→k<30→ ∀gl st,xt 0 gl st.tm st.hp (tmK a n c i (k+1) ⟨none,some ⟨bw,bk,bi,bm⟩,rm,held,f⟩) (hpQ p ⟨none,some ⟨bw,bk,bi,bm⟩,rm,held,f⟩) True→N' st)
    (HN: ∀(bm:Int) (rm:Int) (held:List UInt8) (f:Int),RI ⟨none,some ⟨bw,bk,bi,bm⟩,rm,held,f⟩ (31*(i+1))→ ∀gl st,xt 0 gl st.tm st.hp (tmQ a n c (i+1) ⟨none,some ⟨bw,bk,bi,bm⟩,rm,held,f⟩) (hpQ p ⟨none,some ⟨bw,bk,bi,bm⟩,rm,held,f⟩) True→N st):
    vc (zal f3.ntmps zai yw W rs) pl3 0 LBc (tmK a n c i k ⟨none,some ⟨bw,bk,bi,bm⟩,rm,held,f⟩) (hpQ p ⟨none,some ⟨bw,bk,bi,bm⟩,rm,held,f⟩) N' (X3c (zal f3.ntmps zai yw W rs) pl3 N X R) R:=by
  have hl:=hq.hl
  have hf0:=hq.hf
  have hky:=hq.ky (by omega)
  have hk3:(k:Int)≤30:=by omega
  simp only at hl hf0
  have hlb:held.length<9223372036854775808:=by omega
  obtain ⟨hkb,hkr⟩:=hky.2 _ _ _ _ rfl
  simp only at hkr
  have hpb:za3 bw bk bi bm∧held.length<9223372036854775808:=⟨hkb,hlb⟩
  have hpr:(true=true→za3 bw bk bi rm)∧(f= -1∨0≤f)∧held.length<9223372036854775808:=⟨fun _=>hkr,hf0,hlb⟩
  by_cases h30:k<30
  ·by_cases hfm:f= -1
   ·subst hfm
    by_cases h5:held.length<5
    ·have d1:decide (held.length<5)=true:=decide_eq_true h5
     repeat ((conv=>whnf);first|refine zq ?_|refine zg ?_|refine zf ?_|refine zb ?_|refine zr (by first|exact d1|(rw [d1];rfl)) ?_|refine zj (by first|exact d1|(rw [d1];rfl)) ?_|refine zk (by first|exact d1|(rw [d1];rfl)) ?_)
     conv=>whnf
     refine HN bm rm held (-1) (hq.mono (by omega)) [0,1,2] _ ?_
     exact zo
    ·have d1:decide (held.length<5)=false:=decide_eq_false h5
     by_cases ha:hA held true= -1
     ·have d2:decide (hA held true= -1)=true:=decide_eq_true ha
      by_cases hs:(held.length:Int)<5+hN held
      ·have d3:decide ((held.length:Int)<5+hN held)=true:=decide_eq_true hs
       repeat ((conv=>whnf);first|refine zq ?_|refine zg ?_|refine zf ?_|refine zb ?_|refine zr (by first|exact d1|(rw [d1];rfl)|exact d2|(rw [d2];rfl)|exact d3|(rw [d3];rfl)) ?_|refine zj (by first|exact d1|(rw [d1];rfl)|exact d2|(rw [d2];rfl)|exact d3|(rw [d3];rfl)) ?_|refine zk (by first|exact d1|(rw [d1];rfl)|exact d2|(rw [d2];rfl)|exact d3|(rw [d3];rfl)) ?_)
       conv=>whnf
       refine HN bm rm held (-1) (hq.mono (by omega)) [0,1,2] _ ?_
       exact zo
      ·have d3:decide ((held.length:Int)<5+hN held)=false:=decide_eq_false hs
       by_cases hk20:hK held=20
       ·have d4:decide (hK held=20)=true:=decide_eq_true hk20
        have d5:decide (hK held=23)=false:=decide_eq_false (by omega)
        repeat ((conv=>whnf);first|refine zq ?_|refine zg ?_|refine zf ?_|refine zb ?_|refine zr (by first|exact d1|(rw [d1];rfl)|exact d2|(rw [d2];rfl)|exact d3|(rw [d3];rfl)|exact d4|(rw [d4];rfl)|exact d5|(rw [d5];rfl)) ?_|refine zj (by first|exact d1|(rw [d1];rfl)|exact d2|(rw [d2];rfl)|exact d3|(rw [d3];rfl)|exact d4|(rw [d4];rfl)|exact d5|(rw [d5];rfl)) ?_|refine zk (by first|exact d1|(rw [d1];rfl)|exact d2|(rw [d2];rfl)|exact d3|(rw [d3];rfl)|exact d4|(rw [d4];rfl)|exact d5|(rw [d5];rfl)) ?_)
        conv=>whnf
        refine HN' bm rm (hR held) (-1) (zne hq (by omega)) h30 [0,1,2] _ ?_
        exact zo
       ·have d4:decide (hK held=20)=false:=decide_eq_false hk20
        have d5:decide (hK held=23)=true:=decide_eq_true (ycv ha hk20)
        have hrm:rm=bm:=hq.he rfl _ rfl
        subst hrm
        by_cases ho:hO bw bk bi rm held
        ·have d6:decide (hO bw bk bi rm held)=true:=decide_eq_true ho
         by_cases hia:iA (hP bw bk bi rm held)= -1
         ·have d7:decide (iA (hP bw bk bi rm held)= -1)=true:=decide_eq_true hia
          repeat ((conv=>whnf);first|refine zq ?_|refine zg ?_|refine zf ?_|refine zb ?_|refine zr (by first|exact d1|(rw [d1];rfl)|exact d2|(rw [d2];rfl)|exact d3|(rw [d3];rfl)|exact d4|(rw [d4];rfl)|exact d5|(rw [d5];rfl)|exact d6|(rw [d6];rfl)|exact d7|(rw [d7];rfl)) ?_|refine zj (by first|exact d1|(rw [d1];rfl)|exact d2|(rw [d2];rfl)|exact d3|(rw [d3];rfl)|exact d4|(rw [d4];rfl)|exact d5|(rw [d5];rfl)|exact d6|(rw [d6];rfl)|exact d7|(rw [d7];rfl)) ?_|refine zk (by first|exact d1|(rw [d1];rfl)|exact d2|(rw [d2];rfl)|exact d3|(rw [d3];rfl)|exact d4|(rw [d4];rfl)|exact d5|(rw [d5];rfl)|exact d6|(rw [d6];rfl)|exact d7|(rw [d7];rfl)) ?_)
          conv=>whnf
          refine HN' (rm+1) (rm+1) (hR held) (-1) (zr3 hq) h30 [0,1,2] _ ?_
          exact zo
         ·have d7:decide (iA (hP bw bk bi rm held)= -1)=false:=decide_eq_false hia
          have hi0:=(zzm _).resolve_left hia
          repeat ((conv=>whnf);first|refine zq ?_|refine zg ?_|refine zf ?_|refine zb ?_|refine zr (by first|exact d1|(rw [d1];rfl)|exact d2|(rw [d2];rfl)|exact d3|(rw [d3];rfl)|exact d4|(rw [d4];rfl)|exact d5|(rw [d5];rfl)|exact d6|(rw [d6];rfl)|exact d7|(rw [d7];rfl)) ?_|refine zj (by first|exact d1|(rw [d1];rfl)|exact d2|(rw [d2];rfl)|exact d3|(rw [d3];rfl)|exact d4|(rw [d4];rfl)|exact d5|(rw [d5];rfl)|exact d6|(rw [d6];rfl)|exact d7|(rw [d7];rfl)) ?_|refine zk (by first|exact d1|(rw [d1];rfl)|exact d2|(rw [d2];rfl)|exact d3|(rw [d3];rfl)|exact d4|(rw [d4];rfl)|exact d5|(rw [d5];rfl)|exact d6|(rw [d6];rfl)|exact d7|(rw [d7];rfl)) ?_)
          conv=>whnf
          refine HN (rm+1) rm held (iA (hP bw bk bi rm held)) ((z9c hq hi0).mono (by omega)) [0,1,2] _ ?_
          exact zo
        ·have d6:decide (hO bw bk bi rm held)=false:=decide_eq_false ho
         repeat ((conv=>whnf);first|refine zq ?_|refine zg ?_|refine zf ?_|refine zb ?_|refine zr (by first|exact d1|(rw [d1];rfl)|exact d2|(rw [d2];rfl)|exact d3|(rw [d3];rfl)|exact d4|(rw [d4];rfl)|exact d5|(rw [d5];rfl)|exact d6|(rw [d6];rfl)) ?_|refine zj (by first|exact d1|(rw [d1];rfl)|exact d2|(rw [d2];rfl)|exact d3|(rw [d3];rfl)|exact d4|(rw [d4];rfl)|exact d5|(rw [d5];rfl)|exact d6|(rw [d6];rfl)) ?_|refine zk (by first|exact d1|(rw [d1];rfl)|exact d2|(rw [d2];rfl)|exact d3|(rw [d3];rfl)|exact d4|(rw [d4];rfl)|exact d5|(rw [d5];rfl)|exact d6|(rw [d6];rfl)) ?_)
         conv=>whnf
         refine HN rm rm held 20 (ze9 hq (by omega) (by decide)) [0,1,2] _ ?_
         exact zo
     ·have d2:decide (hA held true= -1)=false:=decide_eq_false ha
      have ha0:=(zoh held true).resolve_left ha
      repeat ((conv=>whnf);first|refine zq ?_|refine zg ?_|refine zf ?_|refine zb ?_|refine zr (by first|exact d1|(rw [d1];rfl)|exact d2|(rw [d2];rfl)) ?_|refine zj (by first|exact d1|(rw [d1];rfl)|exact d2|(rw [d2];rfl)) ?_|refine zk (by first|exact d1|(rw [d1];rfl)|exact d2|(rw [d2];rfl)) ?_)
      conv=>whnf
      refine HN bm rm held (hA held true) (ze9 hq (by omega) ha0) [0,1,2] _ ?_
      exact zo
   ·have d0:decide (f= -1)=false:=decide_eq_false hfm
    repeat ((conv=>whnf);first|refine zq ?_|refine zg ?_|refine zf ?_|refine zb ?_|refine zr (by first|exact d0|(rw [d0];rfl)) ?_|refine zj (by first|exact d0|(rw [d0];rfl)) ?_|refine zk (by first|exact d0|(rw [d0];rfl)) ?_)
    conv=>whnf
    refine HN bm rm held f (hq.mono (by omega)) [0,1,2] _ ?_
    exact zo
  ·have h31:k=30:=by omega
   subst h31
   refine za ?_
   refine HN bm rm held f (hq.mono (by omega)) [0,1,2] _ ?_
   exact zo
set_option maxHeartbeats 16000000 in
theorem z4i (W:World) (rs:List Row) (p:Int) (a:Option Addr) (n c:Nat) (i k:Nat) (hi:i<40) (hk:k≤30) (aw:Int) (ak ai:List UInt8) (am:Int) (bw:Int) (bk bi:List UInt8) (bm:Int) (rm:Int) (held:List UInt8) (f:Int) (hq:RI ⟨some ⟨aw,ak,ai,am⟩,some ⟨bw,bk,bi,bm⟩,rm,held,f⟩ (31*i+1+k)) (N' N:St→Prop) (X:Nat→St→Prop) (R:St→Prop)
    (HN': ∀(bm:Int) (rm:Int) (held:List UInt8) (f:Int),RI ⟨some ⟨aw,ak,ai,am⟩,some ⟨bw,bk,bi,bm⟩,rm,held,f⟩ (31*i+1+(k+1))→k<30→ ∀gl st,xt 0 gl st.tm st.hp (tmK a n c i (k+1) ⟨some ⟨aw,ak,ai,am⟩,some ⟨bw,bk,bi,bm⟩,rm,held,f⟩) (hpQ p ⟨some ⟨aw,ak,ai,am⟩,some ⟨bw,bk,bi,bm⟩,rm,held,f⟩) True→N' st)
    (HN: ∀(bm:Int) (rm:Int) (held:List UInt8) (f:Int),RI ⟨some ⟨aw,ak,ai,am⟩,some ⟨bw,bk,bi,bm⟩,rm,held,f⟩ (31*(i+1))→ ∀gl st,xt 0 gl st.tm st.hp (tmQ a n c (i+1) ⟨some ⟨aw,ak,ai,am⟩,some ⟨bw,bk,bi,bm⟩,rm,held,f⟩) (hpQ p ⟨some ⟨aw,ak,ai,am⟩,some ⟨bw,bk,bi,bm⟩,rm,held,f⟩) True→N st):
    vc (zal f3.ntmps zai yw W rs) pl3 0 LBc (tmK a n c i k ⟨some ⟨aw,ak,ai,am⟩,some ⟨bw,bk,bi,bm⟩,rm,held,f⟩) (hpQ p ⟨some ⟨aw,ak,ai,am⟩,some ⟨bw,bk,bi,bm⟩,rm,held,f⟩) N' (X3c (zal f3.ntmps zai yw W rs) pl3 N X R) R:=by
  have hl:=hq.hl
  have hf0:=hq.hf
  have hky:=hq.ky (by omega)
  have hk3:(k:Int)≤30:=by omega
  simp only at hl hf0
  have hlb:held.length<9223372036854775808:=by omega
  obtain ⟨hkb,hkr⟩:=hky.2 _ _ _ _ rfl
  simp only at hkr
  have hpb:za3 bw bk bi bm∧held.length<9223372036854775808:=⟨hkb,hlb⟩
  have hpr:(true=true→za3 bw bk bi rm)∧(f= -1∨0≤f)∧held.length<9223372036854775808:=⟨fun _=>hkr,hf0,hlb⟩
  by_cases h30:k<30
  ·by_cases hfm:f= -1
   ·subst hfm
    by_cases h5:held.length<5
    ·have d1:decide (held.length<5)=true:=decide_eq_true h5
     repeat ((conv=>whnf);first|refine zq ?_|refine zg ?_|refine zf ?_|refine zb ?_|refine zr (by first|exact d1|(rw [d1];rfl)) ?_|refine zj (by first|exact d1|(rw [d1];rfl)) ?_|refine zk (by first|exact d1|(rw [d1];rfl)) ?_)
     conv=>whnf
     refine HN bm rm held (-1) (hq.mono (by omega)) [0,1,2,3] _ ?_
     exact zo
    ·have d1:decide (held.length<5)=false:=decide_eq_false h5
     by_cases ha:hA held true= -1
     ·have d2:decide (hA held true= -1)=true:=decide_eq_true ha
      by_cases hs:(held.length:Int)<5+hN held
      ·have d3:decide ((held.length:Int)<5+hN held)=true:=decide_eq_true hs
       repeat ((conv=>whnf);first|refine zq ?_|refine zg ?_|refine zf ?_|refine zb ?_|refine zr (by first|exact d1|(rw [d1];rfl)|exact d2|(rw [d2];rfl)|exact d3|(rw [d3];rfl)) ?_|refine zj (by first|exact d1|(rw [d1];rfl)|exact d2|(rw [d2];rfl)|exact d3|(rw [d3];rfl)) ?_|refine zk (by first|exact d1|(rw [d1];rfl)|exact d2|(rw [d2];rfl)|exact d3|(rw [d3];rfl)) ?_)
       conv=>whnf
       refine HN bm rm held (-1) (hq.mono (by omega)) [0,1,2,3] _ ?_
       exact zo
      ·have d3:decide ((held.length:Int)<5+hN held)=false:=decide_eq_false hs
       by_cases hk20:hK held=20
       ·have d4:decide (hK held=20)=true:=decide_eq_true hk20
        have d5:decide (hK held=23)=false:=decide_eq_false (by omega)
        repeat ((conv=>whnf);first|refine zq ?_|refine zg ?_|refine zf ?_|refine zb ?_|refine zr (by first|exact d1|(rw [d1];rfl)|exact d2|(rw [d2];rfl)|exact d3|(rw [d3];rfl)|exact d4|(rw [d4];rfl)|exact d5|(rw [d5];rfl)) ?_|refine zj (by first|exact d1|(rw [d1];rfl)|exact d2|(rw [d2];rfl)|exact d3|(rw [d3];rfl)|exact d4|(rw [d4];rfl)|exact d5|(rw [d5];rfl)) ?_|refine zk (by first|exact d1|(rw [d1];rfl)|exact d2|(rw [d2];rfl)|exact d3|(rw [d3];rfl)|exact d4|(rw [d4];rfl)|exact d5|(rw [d5];rfl)) ?_)
        conv=>whnf
        refine HN' bm rm (hR held) (-1) (zne hq (by omega)) h30 [0,1,2,3] _ ?_
        exact zo
       ·have d4:decide (hK held=20)=false:=decide_eq_false hk20
        have d5:decide (hK held=23)=true:=decide_eq_true (ycv ha hk20)
        have hrm:rm=bm:=hq.he rfl _ rfl
        subst hrm
        by_cases ho:hO bw bk bi rm held
        ·have d6:decide (hO bw bk bi rm held)=true:=decide_eq_true ho
         by_cases hia:iA (hP bw bk bi rm held)= -1
         ·have d7:decide (iA (hP bw bk bi rm held)= -1)=true:=decide_eq_true hia
          repeat ((conv=>whnf);first|refine zq ?_|refine zg ?_|refine zf ?_|refine zb ?_|refine zr (by first|exact d1|(rw [d1];rfl)|exact d2|(rw [d2];rfl)|exact d3|(rw [d3];rfl)|exact d4|(rw [d4];rfl)|exact d5|(rw [d5];rfl)|exact d6|(rw [d6];rfl)|exact d7|(rw [d7];rfl)) ?_|refine zj (by first|exact d1|(rw [d1];rfl)|exact d2|(rw [d2];rfl)|exact d3|(rw [d3];rfl)|exact d4|(rw [d4];rfl)|exact d5|(rw [d5];rfl)|exact d6|(rw [d6];rfl)|exact d7|(rw [d7];rfl)) ?_|refine zk (by first|exact d1|(rw [d1];rfl)|exact d2|(rw [d2];rfl)|exact d3|(rw [d3];rfl)|exact d4|(rw [d4];rfl)|exact d5|(rw [d5];rfl)|exact d6|(rw [d6];rfl)|exact d7|(rw [d7];rfl)) ?_)
          conv=>whnf
          refine HN' (rm+1) (rm+1) (hR held) (-1) (zr3 hq) h30 [0,1,2,3] _ ?_
          exact zo
         ·have d7:decide (iA (hP bw bk bi rm held)= -1)=false:=decide_eq_false hia
          have hi0:=(zzm _).resolve_left hia
          repeat ((conv=>whnf);first|refine zq ?_|refine zg ?_|refine zf ?_|refine zb ?_|refine zr (by first|exact d1|(rw [d1];rfl)|exact d2|(rw [d2];rfl)|exact d3|(rw [d3];rfl)|exact d4|(rw [d4];rfl)|exact d5|(rw [d5];rfl)|exact d6|(rw [d6];rfl)|exact d7|(rw [d7];rfl)) ?_|refine zj (by first|exact d1|(rw [d1];rfl)|exact d2|(rw [d2];rfl)|exact d3|(rw [d3];rfl)|exact d4|(rw [d4];rfl)|exact d5|(rw [d5];rfl)|exact d6|(rw [d6];rfl)|exact d7|(rw [d7];rfl)) ?_|refine zk (by first|exact d1|(rw [d1];rfl)|exact d2|(rw [d2];rfl)|exact d3|(rw [d3];rfl)|exact d4|(rw [d4];rfl)|exact d5|(rw [d5];rfl)|exact d6|(rw [d6];rfl)|exact d7|(rw [d7];rfl)) ?_)
          conv=>whnf
          refine HN (rm+1) rm held (iA (hP bw bk bi rm held)) ((z9c hq hi0).mono (by omega)) [0,1,2,3] _ ?_
          exact zo
        ·have d6:decide (hO bw bk bi rm held)=false:=decide_eq_false ho
         repeat ((conv=>whnf);first|refine zq ?_|refine zg ?_|refine zf ?_|refine zb ?_|refine zr (by first|exact d1|(rw [d1];rfl)|exact d2|(rw [d2];rfl)|exact d3|(rw [d3];rfl)|exact d4|(rw [d4];rfl)|exact d5|(rw [d5];rfl)|exact d6|(rw [d6];rfl)) ?_|refine zj (by first|exact d1|(rw [d1];rfl)|exact d2|(rw [d2];rfl)|exact d3|(rw [d3];rfl)|exact d4|(rw [d4];rfl)|exact d5|(rw [d5];rfl)|exact d6|(rw [d6];rfl)) ?_|refine zk (by first|exact d1|(rw [d1];rfl)|exact d2|(rw [d2];rfl)|exact d3|(rw [d3];rfl)|exact d4|(rw [d4];rfl)|exact d5|(rw [d5];rfl)|exact d6|(rw [d6];rfl)) ?_)
         conv=>whnf
         refine HN rm rm held 20 (ze9 hq (by omega) (by decide)) [0,1,2,3] _ ?_
         exact zo
     ·have d2:decide (hA held true= -1)=false:=decide_eq_false ha
      have ha0:=(zoh held true).resolve_left ha
      repeat ((conv=>whnf);first|refine zq ?_|refine zg ?_|refine zf ?_|refine zb ?_|refine zr (by first|exact d1|(rw [d1];rfl)|exact d2|(rw [d2];rfl)) ?_|refine zj (by first|exact d1|(rw [d1];rfl)|exact d2|(rw [d2];rfl)) ?_|refine zk (by first|exact d1|(rw [d1];rfl)|exact d2|(rw [d2];rfl)) ?_)
      conv=>whnf
      refine HN bm rm held (hA held true) (ze9 hq (by omega) ha0) [0,1,2,3] _ ?_
      exact zo
   ·have d0:decide (f= -1)=false:=decide_eq_false hfm
    repeat ((conv=>whnf);first|refine zq ?_|refine zg ?_|refine zf ?_|refine zb ?_|refine zr (by first|exact d0|(rw [d0];rfl)) ?_|refine zj (by first|exact d0|(rw [d0];rfl)) ?_|refine zk (by first|exact d0|(rw [d0];rfl)) ?_)
    conv=>whnf
    refine HN bm rm held f (hq.mono (by omega)) [0,1,2,3] _ ?_
    exact zo
  ·have h31:k=30:=by omega
   subst h31
   refine za ?_
   refine HN bm rm held f (hq.mono (by omega)) [0,1,2,3] _ ?_
   exact zo
end Go.Sym.Z

namespace Go.Sym
theorem zn8 {gl:List Nat} {n:Nat} {tm:List (Nat×SV)} {k:Nat} {u:SV} {p:Prop}: ∀{r:List (Nat×SV)},(∀x∈r,Nat.beq k x.1=false)→zgl gl n tm r p→zgl gl n ((k,u) ::tm) r p
  | [],_,h=>h
  |(t,v) ::r,hr,h=>by
   have e:=hr (t,v) (List.mem_cons_self ..)
   simp only [zgl] at h ⊢
   split
   ·rename_i hv
    rw [hv] at h
    dsimp only at h
    simp only [yn,e]
    refine zmk (fun w hw=>?_) h
    obtain ⟨h1,h2⟩:=zmb hw
    rw [h1]
    exact zb (zn8 (fun x hx=>hr x (List.mem_cons_of_mem _ hx)) h2)
   ·rename_i hv;rw [hv] at h;exact h
theorem zir {n0:Nat} {gl:List Nat} {tm r:List (Nat×SV)} {hp hp':List Blk} {k:Nat} {z:Int} (hr: ∀x∈r,Nat.beq k x.1=false) (h:xt n0 gl tm hp r hp' True):xt n0 gl ((k,.int z) ::tm) hp ((k,.int z) ::r) hp' True:=by
  unfold xt at h ⊢
  split
  ·rename_i e1 e2 e3
   rw [e1,e2,e3] at h
   dsimp only at h
   rw [zsz] at h ⊢
   refine zid (fun ht=>?_) h
   have h2:=zn8 (u:= .int z) hr ht
   show zgl gl gl.length _ ((k,.int z) ::r) True
   simp only [zgl,SV.all]
   simp only [yn,Nat.beq_refl]
   exact zb h2
  ·rename_i hn
   split at h
   ·rename_i e1 e2 e3;exact (hn e1 e2 e3).elim
   ·exact h
end Go.Sym

namespace Go.Sym.Z
open Go Go.Proofs.Tryz Go.Sym.Lp Go.Sym.Cha Go.Sym.Sha Go.Sym.Hk Go.Sym.Gcm
set_option maxRecDepth 100000
structure JQ (i:Nat) (F:Int→Int→List UInt8→Int→RQ) where
  k:Nat
  bm:Int
  rm:Int
  held:List UInt8
  f:Int
  hk:k≤30
  hq:RI (F bm rm held f) (31*i+1+k)
theorem zuq (a:Option Addr) (n c i:Nat) (q:RQ): ∀x∈tmQ a n c i q,Nat.beq 17 x.1=false:=by
  obtain ⟨W,R,rm,held,f⟩:=q
  cases W<;>cases R<;>(intro x hx;simp only [tmQ,List.mem_cons,List.not_mem_nil,or_false] at hx;rcases hx with rfl|rfl|rfl|rfl<;>rfl)
attribute [local irreducible] za2 exF kyF ivF xi zau y0 inL ncF lnz iA hA hN hK yq zao hO hP hR hT iK yg hdF
set_option maxHeartbeats 4000000 in
theorem z94 (W:World) (rs:List Row) (p:Int) (a:Option Addr) (n c i:Nat) (hi:i<40) (rm:Int) (held:List UInt8) (f:Int) (hq:RI ⟨none,none,rm,held,f⟩ (31*i+1)) (N:St→Prop) (X:Nat→St→Prop) (R:St→Prop)
    (HN: ∀q,RI q (31*(i+1))→ ∀gl st,xt 0 gl st.tm st.hp (tmQ a n c (i+1) q) (hpQ p q) True→N st) (gl:List Nat) (tm:List (Nat×SV)) (hp:List Blk) (he:xt 0 gl tm hp (tmQ a n c i ⟨none,none,rm,held,f⟩) (hpQ p ⟨none,none,rm,held,f⟩) True):
    vc (zal f3.ntmps zai yw W rs) pl3 0 RSc tm hp (N1c (zal f3.ntmps zai yw W rs) pl3 N X R) (X1c (zal f3.ntmps zai yw W rs) pl3 N X R) R:=by
  refine za ?_
  refine zt (JQ i (fun _ rm held f=>(⟨none,none,rm,held,f⟩:RQ))) (fun j=>⟨tmK a n c i j.k ⟨none,none,j.rm,j.held,j.f⟩,hpQ p ⟨none,none,j.rm,j.held,j.f⟩⟩) (fun j=>30-j.k) ⟨0,0,rm,held,f,Nat.zero_le _,hq⟩ gl (zir (zuq a n c i _) he) ?_
  intro j
  exact z84 W rs p a n c i j.k hi j.hk j.rm j.held j.f j.hq _ N X R (fun rm held f hq' hk gl st he=>⟨⟨j.k+1,0,rm,held,f,hk,hq'⟩,gl,by show 30-(j.k+1)<30-j.k;omega,he⟩) (fun rm held f hq' gl st he=>HN _ hq' gl st he)
set_option maxHeartbeats 4000000 in
theorem z95 (W:World) (rs:List Row) (p:Int) (a:Option Addr) (n c i:Nat) (hi:i<40) (aw:Int) (ak ai:List UInt8) (am:Int) (rm:Int) (held:List UInt8) (f:Int) (hq:RI ⟨some ⟨aw,ak,ai,am⟩,none,rm,held,f⟩ (31*i+1)) (N:St→Prop) (X:Nat→St→Prop) (R:St→Prop)
    (HN: ∀q,RI q (31*(i+1))→ ∀gl st,xt 0 gl st.tm st.hp (tmQ a n c (i+1) q) (hpQ p q) True→N st) (gl:List Nat) (tm:List (Nat×SV)) (hp:List Blk) (he:xt 0 gl tm hp (tmQ a n c i ⟨some ⟨aw,ak,ai,am⟩,none,rm,held,f⟩) (hpQ p ⟨some ⟨aw,ak,ai,am⟩,none,rm,held,f⟩) True):
    vc (zal f3.ntmps zai yw W rs) pl3 0 RSc tm hp (N1c (zal f3.ntmps zai yw W rs) pl3 N X R) (X1c (zal f3.ntmps zai yw W rs) pl3 N X R) R:=by
  refine za ?_
  refine zt (JQ i (fun _ rm held f=>(⟨some ⟨aw,ak,ai,am⟩,none,rm,held,f⟩:RQ))) (fun j=>⟨tmK a n c i j.k ⟨some ⟨aw,ak,ai,am⟩,none,j.rm,j.held,j.f⟩,hpQ p ⟨some ⟨aw,ak,ai,am⟩,none,j.rm,j.held,j.f⟩⟩) (fun j=>30-j.k) ⟨0,0,rm,held,f,Nat.zero_le _,hq⟩ gl (zir (zuq a n c i _) he) ?_
  intro j
  exact z4g W rs p a n c i j.k hi j.hk aw ak ai am j.rm j.held j.f j.hq _ N X R (fun rm held f hq' hk gl st he=>⟨⟨j.k+1,0,rm,held,f,hk,hq'⟩,gl,by show 30-(j.k+1)<30-j.k;omega,he⟩) (fun rm held f hq' gl st he=>HN _ hq' gl st he)
set_option maxHeartbeats 4000000 in
theorem z9n (W:World) (rs:List Row) (p:Int) (a:Option Addr) (n c i:Nat) (hi:i<40) (bw:Int) (bk bi:List UInt8) (bm:Int) (rm:Int) (held:List UInt8) (f:Int) (hq:RI ⟨none,some ⟨bw,bk,bi,bm⟩,rm,held,f⟩ (31*i+1)) (N:St→Prop) (X:Nat→St→Prop) (R:St→Prop)
    (HN: ∀q,RI q (31*(i+1))→ ∀gl st,xt 0 gl st.tm st.hp (tmQ a n c (i+1) q) (hpQ p q) True→N st) (gl:List Nat) (tm:List (Nat×SV)) (hp:List Blk) (he:xt 0 gl tm hp (tmQ a n c i ⟨none,some ⟨bw,bk,bi,bm⟩,rm,held,f⟩) (hpQ p ⟨none,some ⟨bw,bk,bi,bm⟩,rm,held,f⟩) True):
    vc (zal f3.ntmps zai yw W rs) pl3 0 RSc tm hp (N1c (zal f3.ntmps zai yw W rs) pl3 N X R) (X1c (zal f3.ntmps zai yw W rs) pl3 N X R) R:=by
  refine za ?_
  refine zt (JQ i (fun bm rm held f=>(⟨none,some ⟨bw,bk,bi,bm⟩,rm,held,f⟩:RQ))) (fun j=>⟨tmK a n c i j.k ⟨none,some ⟨bw,bk,bi,j.bm⟩,j.rm,j.held,j.f⟩,hpQ p ⟨none,some ⟨bw,bk,bi,j.bm⟩,j.rm,j.held,j.f⟩⟩) (fun j=>30-j.k) ⟨0,bm,rm,held,f,Nat.zero_le _,hq⟩ gl (zir (zuq a n c i _) he) ?_
  intro j
  exact z5j W rs p a n c i j.k hi j.hk bw bk bi j.bm j.rm j.held j.f j.hq _ N X R (fun bm rm held f hq' hk gl st he=>⟨⟨j.k+1,bm,rm,held,f,hk,hq'⟩,gl,by show 30-(j.k+1)<30-j.k;omega,he⟩) (fun bm rm held f hq' gl st he=>HN _ hq' gl st he)
set_option maxHeartbeats 4000000 in
theorem ybw (W:World) (rs:List Row) (p:Int) (a:Option Addr) (n c i:Nat) (hi:i<40) (aw:Int) (ak ai:List UInt8) (am:Int) (bw:Int) (bk bi:List UInt8) (bm:Int) (rm:Int) (held:List UInt8) (f:Int) (hq:RI ⟨some ⟨aw,ak,ai,am⟩,some ⟨bw,bk,bi,bm⟩,rm,held,f⟩ (31*i+1)) (N:St→Prop) (X:Nat→St→Prop) (R:St→Prop)
    (HN: ∀q,RI q (31*(i+1))→ ∀gl st,xt 0 gl st.tm st.hp (tmQ a n c (i+1) q) (hpQ p q) True→N st) (gl:List Nat) (tm:List (Nat×SV)) (hp:List Blk) (he:xt 0 gl tm hp (tmQ a n c i ⟨some ⟨aw,ak,ai,am⟩,some ⟨bw,bk,bi,bm⟩,rm,held,f⟩) (hpQ p ⟨some ⟨aw,ak,ai,am⟩,some ⟨bw,bk,bi,bm⟩,rm,held,f⟩) True):
    vc (zal f3.ntmps zai yw W rs) pl3 0 RSc tm hp (N1c (zal f3.ntmps zai yw W rs) pl3 N X R) (X1c (zal f3.ntmps zai yw W rs) pl3 N X R) R:=by
  refine za ?_
  refine zt (JQ i (fun bm rm held f=>(⟨some ⟨aw,ak,ai,am⟩,some ⟨bw,bk,bi,bm⟩,rm,held,f⟩:RQ))) (fun j=>⟨tmK a n c i j.k ⟨some ⟨aw,ak,ai,am⟩,some ⟨bw,bk,bi,j.bm⟩,j.rm,j.held,j.f⟩,hpQ p ⟨some ⟨aw,ak,ai,am⟩,some ⟨bw,bk,bi,j.bm⟩,j.rm,j.held,j.f⟩⟩) (fun j=>30-j.k) ⟨0,bm,rm,held,f,Nat.zero_le _,hq⟩ gl (zir (zuq a n c i _) he) ?_
  intro j
  exact z4i W rs p a n c i j.k hi j.hk aw ak ai am bw bk bi j.bm j.rm j.held j.f j.hq _ N X R (fun bm rm held f hq' hk gl st he=>⟨⟨j.k+1,bm,rm,held,f,hk,hq'⟩,gl,by show 30-(j.k+1)<30-j.k;omega,he⟩) (fun bm rm held f hq' gl st he=>HN _ hq' gl st he)
theorem y7 (W:World) (rs:List Row) (p:Int) (a:Option Addr) (n c i:Nat) (hi:i<40) (N:St→Prop) (X:Nat→St→Prop) (R:St→Prop)
    (HN: ∀q,RI q (31*(i+1))→ ∀gl st,xt 0 gl st.tm st.hp (tmQ a n c (i+1) q) (hpQ p q) True→N st) (q:RQ) (hq:RI q (31*i+1)) (gl:List Nat) (tm:List (Nat×SV)) (hp:List Blk) (he:xt 0 gl tm hp (tmQ a n c i q) (hpQ p q) True):
    vc (zal f3.ntmps zai yw W rs) pl3 0 RSc tm hp (N1c (zal f3.ntmps zai yw W rs) pl3 N X R) (X1c (zal f3.ntmps zai yw W rs) pl3 N X R) R:=by
  obtain ⟨W',R',rm,held,f⟩:=q
  cases W' with
  |none=>cases R' with
   |none=>exact z94 W rs p a n c i hi rm held f hq N X R HN gl tm hp he
   |some b=>exact z9n W rs p a n c i hi b.w b.key b.iv b.m rm held f hq N X R HN gl tm hp he
  |some k=>cases R' with
   |none=>exact z95 W rs p a n c i hi k.w k.key k.iv k.m rm held f hq N X R HN gl tm hp he
   |some b=>exact ybw W rs p a n c i hi k.w k.key k.iv k.m b.w b.key b.iv b.m rm held f hq N X R HN gl tm hp he
end Go.Sym.Z
