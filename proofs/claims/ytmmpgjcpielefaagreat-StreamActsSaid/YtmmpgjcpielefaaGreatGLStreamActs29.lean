/-
  Contracts of functions of the program, each said of symbolic values, and plain laws; no condition beyond each statement's own.
-/
import Derived.Test.YtmmpgjcpielefaaGreatGLStreamActs28
import Derived.Test.YtmmpgjcpielefaaGreatGLStreamActs13
import GoSem.Core.Value
set_option linter.unusedSimpArgs false
set_option linter.unusedVariables false
namespace Go.Sym.Z
open Go Go.Proofs.Tryz Go.Sym.Lp Go.Sym.Cha Go.Sym.Sha Go.Sym.Hk Go.Sym.Gcm
set_option maxRecDepth 100000
def ymv:List (Nat×List PStep):= [(2,[⟨0,[]⟩,⟨1,[0]⟩,⟨2,[0]⟩,⟨3,[0]⟩,⟨4,[0]⟩,⟨5,[1,2,3,4]⟩,⟨6,[1,2,3,4]⟩,⟨7,[]⟩]),(5,[⟨0,[]⟩,⟨1,[0]⟩,⟨2,[0]⟩,⟨3,[0]⟩,⟨4,[0]⟩,⟨5,[1,2,3,4]⟩,⟨6,[1,2,3,4]⟩,⟨7,[]⟩]),(9,[⟨0,[]⟩,⟨1,[]⟩,⟨2,[]⟩,⟨3,[]⟩,⟨4,[]⟩,⟨5,[0,1,2,3,4]⟩,⟨6,[0,1,2,3,4]⟩,⟨7,[0,1,2,3,4]⟩,⟨8,[0,1,2,3,4]⟩,⟨9,[0,1,2,3,4,5,6,7,8]⟩,⟨10,[0,1,2,3,4,5,6,7,8]⟩,⟨11,[0,1,2,3,4]⟩,⟨12,[5,6,7,8,9,10,11]⟩,⟨13,[]⟩])]
theorem zx3 (h:List UInt8) (b:Bool):hA h b= -1∨0≤hA h b:=by
  unfold hA
  repeat' split
  all_goals first|exact .inl rfl|exact .inr (by decide)
theorem z81 (h:List UInt8):iA h= -1∨0≤iA h:=by
  unfold iA
  repeat' split
  all_goals first|exact .inl rfl|exact .inr (by decide)
theorem ykh (h:List UInt8):(((h.take (Int.toNat 5)).getD (Int.toNat 0) 0).toNat:Int)=hK h:=by
  unfold hK
  cases h with
  |nil=>rfl
  |cons a t=>rfl
attribute [local irreducible] x3 exF kyF ivF y6 xq y3 inL ncF iA hA hN hK hdF za7 zcl hT hR lnz
def zt0:Spec:=fun args hp K=>match args,hp with
  | [.ptr 0 0 0 []],[.mk t0 [.int p,.int rg,.int rs,.str rk,.str ri,.int rc,.bool ro,.int ws,.str wk,.str wi,.int wc,.bool wo,.str held,.int f]]=>Pre ((ro=true→ze1 rs rk ri rc)∧(f= -1∨0≤f)∧held.length<9223372036854775808) (ye (decide (f= -1)) (ye (decide (held.length<5)) (K (.tup [.agg [.int 0,.str []],.bool false,.int (-1)]) [.mk t0 [.int p,.int rg,.int rs,.str rk,.str ri,.int rc,.bool ro,.int ws,.str wk,.str wi,.int wc,.bool wo,.str held,.int (-1)]]) (ye (decide (hA held ro= -1)) (ye (decide ((held.length:Int)<5+hN held)) (K (.tup [.agg [.int 0,.str []],.bool false,.int (-1)]) [.mk t0 [.int p,.int rg,.int rs,.str rk,.str ri,.int rc,.bool ro,.int ws,.str wk,.str wi,.int wc,.bool wo,.str held,.int (-1)]]) (ye (ro&&decide (hK held=23)) (ye (decide (hO rs rk ri rc held)) (ye (decide (iA (hP rs rk ri rc held)= -1)) (K (.tup [.agg [.int (iK (hP rs rk ri rc held)),.str ((hP rs rk ri rc held).take (lnz (hP rs rk ri rc held) (hP rs rk ri rc held).length-1))],.bool true,.int (-1)]) [.mk t0 [.int p,.int rg,.int rs,.str rk,.str ri,.int (rc+1),.bool ro,.int ws,.str wk,.str wi,.int wc,.bool wo,.str (hR held),.int (-1)]]) (K (.tup [.agg [.int 0,.str []],.bool false,.int (iA (hP rs rk ri rc held))]) [.mk t0 [.int p,.int rg,.int rs,.str rk,.str ri,.int rc,.bool ro,.int ws,.str wk,.str wi,.int wc,.bool wo,.str held,.int (iA (hP rs rk ri rc held))]])) (K (.tup [.agg [.int 0,.str []],.bool false,.int 20]) [.mk t0 [.int p,.int rg,.int rs,.str rk,.str ri,.int rc,.bool ro,.int ws,.str wk,.str wi,.int wc,.bool wo,.str held,.int 20]])) (K (.tup [.agg [.int (hK held),.str (hT held)],.bool true,.int (-1)]) [.mk t0 [.int p,.int rg,.int rs,.str rk,.str ri,.int rc,.bool ro,.int ws,.str wk,.str wi,.int wc,.bool wo,.str (hR held),.int (-1)]]))) (K (.tup [.agg [.int 0,.str []],.bool false,.int (hA held ro)]) [.mk t0 [.int p,.int rg,.int rs,.str rk,.str ri,.int rc,.bool ro,.int ws,.str wk,.str wi,.int wc,.bool wo,.str held,.int (hA held ro)]]))) (K (.tup [.agg [.int 0,.str []],.bool false,.int f]) [.mk t0 [.int p,.int rg,.int rs,.str rk,.str ri,.int rc,.bool ro,.int ws,.str wk,.str wi,.int wc,.bool wo,.str held,.int f]]))
  |_,_=>False
set_option maxHeartbeats 16000000 in
theorem ybs:zp prog 23 zt0:=by
  refine zm zbs (zd z6s (zd ya8 (zd yax zi))) rfl func23 rfl call23 (D:=ymv) ?_ ?_
  ·intro args hp K h
   unfold zt0 at h
   split at h
   ·exact Nat.le_of_ble_eq_true rfl
   ·exact h.elim
  ·intro args hp K h
   unfold zt0 at h
   split at h
   ·rename_i t0 p rg rs rk ri rc ro ws wk wi wc wo held f
    obtain ⟨⟨hkw,hf0,hl⟩,h⟩:=zq h
    obtain ⟨ht,hf⟩:=z8 h
    by_cases hfm:f= -1
    ·have h9:=ht (decide_eq_true hfm)
     clear h ht hf
     subst hfm
     obtain ⟨ht,hf⟩:=z8 h9
     by_cases h5:held.length<5
     ·have h:=ht (decide_eq_true h5)
      refine za ?_
      exact zf [0] h
     ·have h:=hf (decide_eq_false h5)
      have hp0:5≤held.length∧held.length<9223372036854775808:=⟨by omega,hl⟩
      have hpn:0≤(3:Int)∧(3:Int)+2≤(held.length:Int)∧held.length<9223372036854775808:=⟨by decide,by omega,hl⟩
      have hnb:=z08 held
      have hNd:256*((held.getD (Int.toNat 3) 0).toNat:Int)+((held.getD (Int.toNat 3+1) 0).toNat:Int)=hN held:=by unfold hN;rfl
      obtain ⟨ht,hf⟩:=z8 h
      by_cases ha:hA held ro= -1
      ·have h:=ht (decide_eq_true ha)
       have hn16:=z71 ha
       obtain ⟨ht,hf⟩:=z8 h
       have hge:decide (hA held ro≥0)=false:=decide_eq_false (by omega)
       repeat ((conv=>whnf);first|refine zu ?_|refine zg ?_|refine zh ?_|refine zb ?_|refine zr (by first|(rw [hge];rfl)) ?_|refine zj (by first|(rw [hge];rfl)) ?_|refine zk (by first|(rw [hge];rfl)) ?_)
       conv=>whnf
       rw [hNd,ha]
       by_cases hs:(held.length:Int)<5+hN held
       ·have h:=ht (decide_eq_true hs)
        refine za ?_
        exact zf [0] h
       ·have h:=hf (decide_eq_false hs)
        have hTl:=ygs (h:=held) (by omega)
        have hTe:List.take ((5+hN held).toNat-Int.toNat 5) (List.drop (Int.toNat 5) held)=hT held:=yib _ (by show (5+hN held).toNat-5=_;omega)
        have hRe:List.drop (5+hN held).toNat held=hR held:=by unfold hR;congr 1;omega
        have hKe:=ykh held
        have htl:(List.take (Int.toNat 5) held).length=5:=by rw [List.length_take];show min 5 _=_;omega
        obtain ⟨ht,hf⟩:=z8 h
        cases ro
        ·have h:=hf rfl
         refine za ?_
         rw [hTe,hKe]
         refine za ?_
         rw [hRe]
         conv=>whnf
         exact zf [0] h
        ·have hok:=hkw rfl
         have hpo:ze1 rs rk ri rc∧(List.take (Int.toNat 5) held).length≤100∧(hT held).length≤20000:=⟨hok,by omega,by omega⟩
         by_cases hk:hK held=23
         ·have h:=ht (by rw [decide_eq_true hk];rfl)
          obtain ⟨ht,hf⟩:=z8 h
          refine za ?_
          rw [hTe,hKe]
          by_cases hop:hO rs rk ri rc held
          ·have h:=ht (decide_eq_true hop)
           obtain ⟨ht,hf⟩:=z8 h
           have hop':16≤(hT held).length∧xq rs rk (ncF ri rc) (List.take (Int.toNat 5) held) ((hT held).take ((hT held).length-16))=(hT held).drop ((hT held).length-16):=hop
           by_cases hia:iA (hP rs rk ri rc held)= -1
           ·have h:=ht (decide_eq_true hia)
            have hia':iA (y3 rs rk (ncF ri rc) ((hT held).take ((hT held).length-16)))= -1:=hia
            repeat ((conv=>whnf);first|refine zu ?_|refine zg ?_|refine zh ?_|refine zb ?_|refine zr (by first|exact decide_eq_true hop'|exact decide_eq_true hia') ?_|refine zj (by first|exact decide_eq_true hop'|exact decide_eq_true hia') ?_|refine zk (by first|exact decide_eq_true hop'|exact decide_eq_true hia') ?_)
            conv=>whnf
            rw [hRe]
            conv=>whnf
            exact zf [0] h
           ·have h:=hf (decide_eq_false hia)
            have hi0:=(z81 (hP rs rk ri rc held)).resolve_left hia
            have hia': ¬iA (y3 rs rk (ncF ri rc) ((hT held).take ((hT held).length-16)))= -1:=hia
            have hi0':decide (iA (y3 rs rk (ncF ri rc) ((hT held).take ((hT held).length-16)))≥0)=true:=decide_eq_true hi0
            repeat ((conv=>whnf);first|refine zu ?_|refine zg ?_|refine zh ?_|refine zb ?_|refine zr (by first|exact decide_eq_true hop'|exact decide_eq_false hia'|(rw [hi0'];rfl)) ?_|refine zj (by first|exact decide_eq_true hop'|exact decide_eq_false hia'|(rw [hi0'];rfl)) ?_|refine zk (by first|exact decide_eq_true hop'|exact decide_eq_false hia'|(rw [hi0'];rfl)) ?_)
            conv=>whnf
            exact zf [0] h
          ·have h:=hf (decide_eq_false hop)
           have hop': ¬(16≤(hT held).length∧xq rs rk (ncF ri rc) (List.take (Int.toNat 5) held) ((hT held).take ((hT held).length-16))=(hT held).drop ((hT held).length-16)):=hop
           repeat ((conv=>whnf);first|refine zu ?_|refine zg ?_|refine zh ?_|refine zb ?_|refine zr (by first|exact decide_eq_false hop') ?_|refine zj (by first|exact decide_eq_false hop') ?_|refine zk (by first|exact decide_eq_false hop') ?_)
           conv=>whnf
           exact zf [0] h
         ·have h:=hf (by rw [decide_eq_false hk];rfl)
          refine za ?_
          rw [hTe,hKe]
          refine za ?_
          rw [hRe]
          conv=>whnf
          exact zf [0] h
      ·have h:=hf (decide_eq_false ha)
       have ha0:=(zx3 held ro).resolve_left ha
       have hge:decide (hA held ro≥0)=true:=decide_eq_true ha0
       repeat ((conv=>whnf);first|refine zu ?_|refine zg ?_|refine zh ?_|refine zb ?_|refine zr (by first|(rw [hge];rfl)) ?_|refine zj (by first|(rw [hge];rfl)) ?_|refine zk (by first|(rw [hge];rfl)) ?_)
       conv=>whnf
       exact zf [0] h
    ·have h:=hf (decide_eq_false hfm)
     refine za ?_
     exact zf [0] h
   ·exact h.elim
end Go.Sym.Z

namespace Go.Sym.Z
open Go Go.Proofs.Tryz Go.Sym.Lp Go.Sym.Cha Go.Sym.Sha Go.Sym.Hk Go.Sym.Gcm
set_option maxRecDepth 100000
def ztd (nt:Nat) (ty:List (Nat×TyI)) (fs:List (Nat×Spec)) (w:World) (rs:List Row):Ctx:={nt:=nt,ty:=ty,fn:=fs,E:=fun w'=>Ext (fun _=>False) w w',ext:=zeq rs}
def cs1:Code→Code| .seq a _=>a|c=>c
def cs2:Code→Code| .seq _ b=>b|c=>c
def cin:Code→Code| .block _ b=>b| .loop b=>b| .scope b=>b|c=>c
structure Kq where
  w:Int
  key:List UInt8
  iv:List UInt8
  m:Int
structure RQ where
  W:Option Kq
  R:Option Kq
  rm:Int
  held:List UInt8
  f:Int
def kOK (x:Option Kq) (B:Nat):Prop:= ∀k,x=some k→su k.w∧k.key.length=aSz k.w∧k.iv.length=12∧0≤k.m∧k.m≤(B:Int)
structure RI (q:RQ) (B:Nat):Prop where
  hW:kOK q.W B
  hR:kOK q.R B
  hm:0≤q.rm∧q.rm≤(B:Int)
  he:q.f= -1→ ∀k,q.R=some k→q.rm=k.m
  hf:q.f= -1∨0≤q.f
  hl:q.held.length≤B*281474976710656
theorem zjt {x:Option Kq} {B C:Nat} (h:kOK x B) (hBC:B≤C):kOK x C:=fun k hk=>by
  obtain ⟨h1,h2,h3,h4,h5⟩:=h k hk
  exact ⟨h1,h2,h3,h4,by omega⟩
theorem RI.mono {q:RQ} {B C:Nat} (h:RI q B) (hBC:B≤C):RI q C:=
  ⟨zjt h.hW hBC,zjt h.hR hBC,⟨h.hm.1,by have:=h.hm.2;omega⟩,h.he,h.hf,Nat.le_trans h.hl (Nat.mul_le_mul_right _ hBC)⟩
def kB (k:Kq):Blk:= .mk 103 [.int k.w,.str k.key,.str k.iv,.int k.m]
theorem yig {h:List UInt8} (ha:hA h true= -1) (hk: ¬hK h=20):hK h=23:=by
  by_cases h1:yv (hK h)
  ·by_cases h2:hK h=21∨hK h=22
   ·exfalso
    have e:hA h true=22∨hA h true=10:=by
      unfold hA
      rw [if_pos h1]
      by_cases h3:(if true=true∧hK h=23 then (16640:Int) else 16384)<hN h
      ·left;rw [if_pos h3]
      ·right;rw [if_neg h3,if_pos ⟨rfl,h2⟩]
    rw [ha] at e
    exact absurd e (by decide)
   ·unfold yv at h1;omega
  ·exfalso
   have e:hA h true=10:=by unfold hA;rw [if_neg h1]
   rw [ha] at e
   exact absurd e (by decide)
theorem z4r {w:Int} {key iv:List UInt8} {m:Int} {B:Nat} (h:kOK (some ⟨w,key,iv,m⟩) B):kOK (some ⟨w,key,iv,m+1⟩) (B+1):=fun k hk=>by
  cases hk
  obtain ⟨h1,h2,h3,h4,h5⟩:=h _ rfl
  simp only at h1 h2 h3 h4 h5 ⊢
  exact ⟨h1,h2,h3,by omega,by omega⟩
theorem RI.ky {q:RQ} {B:Nat} (h:RI q B) (hB:B≤1000000000):(∀w key iv m,q.W=some ⟨w,key,iv,m⟩→ze1 w key iv m)∧(∀w key iv m,q.R=some ⟨w,key,iv,m⟩→ze1 w key iv m∧ze1 w key iv q.rm):=by
  refine ⟨fun w key iv m e=>?_,fun w key iv m e=>?_⟩
  ·obtain ⟨h1,h2,h3,h4,h5⟩:=h.hW _ e
   simp only at h1 h2 h3 h4 h5
   exact ⟨h1,h2,h3,h4,by omega⟩
  ·obtain ⟨h1,h2,h3,h4,h5⟩:=h.hR _ e
   simp only at h1 h2 h3 h4 h5
   have:=h.hm
   exact ⟨⟨h1,h2,h3,h4,by omega⟩,h1,h2,h3,this.1,by omega⟩
attribute [local irreducible] x3 exF kyF ivF y6 xq y3 inL ncF lnz iA hA hN hK za7 zcl hO hP hR hT iK hdF
end Go.Sym.Z

namespace Go.Sym
end Go.Sym

namespace Go.Sym.Z
open Go Go.Proofs.Tryz Go.Sym.Lp Go.Sym.Cha Go.Sym.Sha Go.Sym.Hk Go.Sym.Gcm
set_option maxRecDepth 100000
structure JQ (i:Nat) (F:Int→Int→List UInt8→Int→RQ) where
  k:Nat
  bm:Int
  rm:Int
  held:List UInt8
  f:Int
  hk:k≤30
  hq:RI (F bm rm held f) (31*i+1+k)
attribute [local irreducible] x3 exF kyF ivF y6 xq y3 inL ncF lnz iA hA hN hK za7 zcl hO hP hR hT iK hdF
end Go.Sym.Z

namespace Go.Sym.Z
open Go Go.Proofs.Tryz Go.Sym.Lp Go.Sym.Cha Go.Sym.Sha Go.Sym.Hk Go.Sym.Gcm
set_option maxRecDepth 100000
attribute [local irreducible] x3 exF kyF ivF y6 xq y3 inL ncF lnz iA hA hN hK za7 zcl hO hP hR hT iK hdF zgg
end Go.Sym.Z

namespace Go.Sym.Z
open Go Go.Proofs.Tryz Go.Sym.Lp Go.Sym.Cha Go.Sym.Sha Go.Sym.Hk Go.Sym.Gcm
set_option maxRecDepth 100000
structure OQ (n:Nat) where
  i:Nat
  hn:i≤n
  h40:i≤40
  q:RQ
  hq:RI q (31*i)
noncomputable def RfV (Γ:Ctx) (res:List ResultVar) (K:SV→List Blk→Prop):St→Prop:=fun st=>match st with|⟨tm',hp'⟩=>zsx Γ tm' hp' res fun vs=>z2d vs fun r=>zb7 0 r hp' K
noncomputable def XfV (Γ:Ctx) (D:List (Nat×List PStep)) (res:List ResultVar) (K:SV→List Blk→Prop) (cc:Code):Nat→St→Prop:=fun i st=>match Nat.beq i 0 with
  |true=>(match st with|⟨tm',hp'⟩=>vc Γ D 0 cc tm' hp' (RfV Γ res K) (fun _ _=>False) (RfV Γ res K))
  |false=>False
attribute [local irreducible] x3 exF kyF ivF y6 xq y3 inL ncF lnz iA hA hN hK za7 zcl hO hP hR hT iK hdF zgg
end Go.Sym.Z

namespace Go.Sym.Ring
def rot (l:List UInt8) (b:Nat):List UInt8:=l.drop b++l.take b
def zl (l:List UInt8) (b h:Nat):List UInt8:=(rot l b).take h
theorem zag {l:List UInt8} {b h:Nat} (hb:b≤l.length) (hh:h≤l.length):(zl l b h).length=h:=by
  simp [zl,rot];omega
theorem za2 {l:List UInt8} {b h i:Nat} (hb:b<l.length) (hi:i<h) (hh:h≤l.length):(zl l b h)[i]?=if b+i<l.length then l[b+i]? else l[b+i-l.length]?:=by
  unfold zl rot
  rw [List.getElem?_take,if_pos hi]
  split
  ·rename_i hlt
   rw [List.getElem?_append_left (by simp;omega),List.getElem?_drop]
  ·rename_i hge
   rw [List.getElem?_append_right (by simp;omega),List.getElem?_take,if_pos (by simp;omega)]
   congr 1
   simp;omega
theorem zdv {l:List UInt8} {b h i:Nat} (hb:b≤l.length) (hi:h≤i) (hh:h≤l.length):(zl l b h)[i]?=none:=by
  rw [List.getElem?_eq_none];rw [zag hb hh];exact hi
theorem place {b a n:Nat} (hb:b<n) (ha:a≤n):(b+a)%n=if b+a<n then b+a else b+a-n:=by
  split
  ·exact Nat.mod_eq_of_lt ‹_›
  ·rw [Nat.mod_eq_sub_mod (by omega),Nat.mod_eq_of_lt (by omega)]
theorem z55 {l:List UInt8} {b h a k:Nat} (hb:b<l.length) (hh:h≤l.length) (hk:a+k≤h) (hp:(b+a)%l.length+k≤l.length):
    (l.drop ((b+a)%l.length)).take k=((zl l b h).drop a).take k:=by
  rw [place hb (by omega)] at hp ⊢
  apply List.ext_getElem?
  intro i
  rw [List.getElem?_take,List.getElem?_take]
  split
  ·rename_i hi
   rw [List.getElem?_drop,List.getElem?_drop,za2 hb (by omega) hh]
   by_cases h1:b+a<l.length
   ·rw [if_pos h1] at hp ⊢
    rw [if_pos (by omega)]
    congr 1;omega
   ·rw [if_neg h1] at hp ⊢
    rw [if_neg (by omega)]
    congr 1;omega
  ·rfl
theorem z5g {l:List UInt8} {b h a k:Nat} (hb:b<l.length) (hh:h≤l.length) (hk:a+k≤h) (hp:l.length<(b+a)%l.length+k):
    (l.drop ((b+a)%l.length)).take (l.length-(b+a)%l.length)++l.take (k-(l.length-(b+a)%l.length))=((zl l b h).drop a).take k:=by
  rw [place hb (by omega)] at hp ⊢
  have hlt:b+a<l.length:=by
    split at hp
    ·assumption
    ·omega
  rw [if_pos hlt] at hp ⊢
  apply List.ext_getElem?
  intro i
  by_cases hi:i<k
  ·rw [List.getElem?_take,if_pos hi,List.getElem?_drop,za2 hb (by omega) hh]
   split
   ·rw [List.getElem?_append_left (by simp;omega),List.getElem?_take,if_pos (by omega),List.getElem?_drop]
    congr 1;omega
   ·rw [List.getElem?_append_right (by simp;omega),List.getElem?_take,if_pos (by simp;omega)]
    congr 1;simp;omega
  ·rw [List.getElem?_eq_none (by simp;omega),List.getElem?_eq_none (by simp;omega)]
theorem zty {l:List UInt8} {b h k:Nat} (hb:b<l.length) (hh:h≤l.length) (hk:k≤h):zl l ((b+k)%l.length) (h-k)=(zl l b h).drop k:=by
  have hp:(b+k)%l.length<l.length:=Nat.mod_lt _ (by omega)
  have hpl:=place hb (show k≤l.length by omega)
  generalize (b+k)%l.length=p at hp hpl ⊢
  apply List.ext_getElem?
  intro i
  by_cases hi:i<h-k
  ·rw [List.getElem?_drop,za2 hp hi (by omega),za2 hb (by omega) hh]
   by_cases h1:b+k<l.length
   ·rw [if_pos h1] at hpl
    subst hpl
    by_cases h2:b+k+i<l.length
    ·rw [if_pos h2,if_pos (by omega)];congr 1;omega
    ·rw [if_neg h2,if_neg (by omega)];congr 1;omega
   ·rw [if_neg h1] at hpl
    subst hpl
    rw [if_pos (by omega),if_neg (by omega)]
    congr 1;omega
  ·rw [zdv (by omega) (by omega) (by omega),List.getElem?_drop,zdv (by omega) (by omega) hh]
theorem zz8 {l l' s:List UInt8} {b h:Nat} (hb:b<l.length) (hs:h+s.length≤l.length) (hl:l'.length=l.length)
    (hw: ∀i,i<l.length→l'[i]?=if (i+l.length-(b+h)%l.length)%l.length<s.length then s[(i+l.length-(b+h)%l.length)%l.length]? else l[i]?):
    zl l' b (h+s.length)=zl l b h++s:=by
  have hpl:=place hb (show h≤l.length by omega)
  apply List.ext_getElem?
  intro i
  by_cases hi:i<h+s.length
  ·rw [za2 (by omega) hi (by omega),hl]
   have hq: ∀q,q<l.length→q=(if b+i<l.length then b+i else b+i-l.length)→l'[q]?=(zl l b h++s)[i]?:=by
     intro q hq he
     rw [hw q hq]
     by_cases hih:i<h
     ·rw [List.getElem?_append_left (by rw [zag (by omega) (by omega)];exact hih),za2 hb hih (by omega)]
      have: ¬(q+l.length-(b+h)%l.length)%l.length<s.length:=by
        rw [hpl]
        split at he<;>split<;>subst he
        ·rw [Nat.mod_eq_of_lt (by omega)];omega
        ·by_cases h3:b+i+l.length-(b+h-l.length)<l.length
         ·omega
         ·rw [Nat.mod_eq_sub_mod (by omega),Nat.mod_eq_of_lt (by omega)];omega
        ·omega
        ·rw [Nat.mod_eq_of_lt (by omega)];omega
      rw [if_neg this]
      split at he<;>rename_i h4
      ·rw [if_pos h4,he]
      ·rw [if_neg h4,he]
     ·rw [List.getElem?_append_right (by rw [zag (by omega) (by omega)];omega),zag (by omega) (by omega)]
      have:(q+l.length-(b+h)%l.length)%l.length=i-h:=by
        rw [hpl]
        split at he<;>split<;>subst he
        ·rw [Nat.mod_eq_sub_mod (by omega),Nat.mod_eq_of_lt (by omega)];omega
        ·omega
        ·rw [Nat.mod_eq_of_lt (by omega)];omega
        ·rw [Nat.mod_eq_sub_mod (by omega),Nat.mod_eq_of_lt (by omega)];omega
      rw [this,if_pos (by omega)]
   split
   ·rename_i h5;exact hq _ h5 (by rw [if_pos h5])
   ·rename_i h5;exact hq _ (by omega) (by rw [if_neg h5])
  ·rw [zdv (by omega) (by omega) (by omega),List.getElem?_eq_none (by rw [List.length_append,zag (by omega) (by omega)];omega)]
end Go.Sym.Ring

namespace Go.Sym.Ring
open Go Go.Sym Go.Sym.Lp
set_option maxRecDepth 100000
def yj (n c m:Nat) (l:List UInt8) (b h:Int):Prop:=n=c∧m=n∧l.length=n∧1≤n∧n≤1048576∧0≤b∧b<n∧0≤h∧h≤n
theorem zq6 {l:List UInt8} {n:Nat} {b h a k:Int} (hl:l.length=n) (hb:0≤b) (hb':b<n) (hh:0≤h) (hh':h≤n) (ha:0≤a) (hk:0≤k) (hak:k≤h-a) (hp:(b+a).tmod n+k≤n):
    (l.drop (off [(slO ((b+a).tmod n+k).toNat ((b+a).tmod n).toNat,1)])).take (((b+a).tmod n+k).toNat-((b+a).tmod n).toNat)=((zl l b.toNat h.toNat).drop a.toNat).take k.toNat:=by
  have hm0:0≤(b+a).tmod n:=Int.tmod_nonneg _ (by omega)
  have e0:((b+a).tmod n).toNat=(b.toNat+a.toNat)%n:=by rw [zeg (by omega)];congr 1;omega
  have e1:((b+a).tmod n+k).toNat-((b+a).tmod n).toNat=k.toNat:=by omega
  rw [e1]
  by_cases h0:k=0
  ·subst h0;simp
  ·rw [y7 (by omega),e0]
   simp only [off,zib,Nat.add_zero]
   subst hl
   exact z55 (by omega) (by omega) (by omega) (by omega)
theorem zrt {l:List UInt8} {n:Nat} {b h a k:Int} (hl:l.length=n) (hb:0≤b) (hb':b<n) (hh:0≤h) (hh':h≤n) (ha:0≤a) (hk:0≤k) (hak:k≤h-a) (hp: ¬(b+a).tmod n+k≤n):
    (l.drop (off [(slO n ((b+a).tmod n).toNat,1)])).take (n-((b+a).tmod n).toNat)++(l.drop (off [])).take (k-n+(b+a).tmod n).toNat=((zl l b.toNat h.toNat).drop a.toNat).take k.toNat:=by
  have hm0:0≤(b+a).tmod n:=Int.tmod_nonneg _ (by omega)
  have hm1:(b+a).tmod n<n:=Int.tmod_lt_of_pos _ (by omega)
  have e0:((b+a).tmod n).toNat=(b.toNat+a.toNat)%n:=by rw [zeg (by omega)];congr 1;omega
  have e1:(k-n+(b+a).tmod n).toNat=k.toNat-(n-((b+a).tmod n).toNat):=by omega
  rw [e1,y7 (by omega),e0]
  simp only [off,zib,Nat.add_zero,List.drop_zero]
  subst hl
  exact z5g (by omega) (by omega) (by omega) (by omega)
theorem xp {α:Type} {l m:List α} {i:Nat} (h:i+m.length≤l.length):(zx l i m).length=l.length:=by
  simp [zx];omega
theorem zcz {α:Type} {l m:List α} {i:Nat} (h:i+m.length≤l.length) (j:Nat):(zx l i m)[j]?=if i≤j∧j<i+m.length then m[j-i]? else l[j]?:=by
  unfold zx
  by_cases h1:j<i
  ·rw [if_neg (by omega),List.append_assoc,List.getElem?_append_left (by simp;omega),List.getElem?_take,if_pos h1]
  ·by_cases h2:j<i+m.length
   ·rw [if_pos (by omega),List.getElem?_append_left (by simp;omega),List.getElem?_append_right (by simp;omega)]
    congr 1;simp<;>omega
   ·rw [if_neg (by omega),List.getElem?_append_right (by simp;omega),List.getElem?_drop]
    congr 1;simp<;>omega
theorem yc0 {l s:List UInt8} {n:Nat} {b h k:Int} (hl:l.length=n) (hb:0≤b) (hb':b<n) (hh:0≤h) (hh':h≤n) (hk:0≤k) (hks:k≤s.length) (hkn:k≤n-h) (hp:(b+h).tmod n+k≤n):
    (zx l (off [(slO ((b+h).tmod n+k).toNat ((b+h).tmod n).toNat,1)]) (List.take (min (List.take k.toNat s).length (((b+h).tmod n+k).toNat-((b+h).tmod n).toNat)) (List.take k.toNat s))).length=n∧
    zl (zx l (off [(slO ((b+h).tmod n+k).toNat ((b+h).tmod n).toNat,1)]) (List.take (min (List.take k.toNat s).length (((b+h).tmod n+k).toNat-((b+h).tmod n).toNat)) (List.take k.toNat s))) b.toNat (h+k).toNat=zl l b.toNat h.toNat++s.take k.toNat:=by
  have hm0:0≤(b+h).tmod n:=Int.tmod_nonneg _ (by omega)
  have hm1:(b+h).tmod n<n:=Int.tmod_lt_of_pos _ (by omega)
  have e0:((b+h).tmod n).toNat=(b.toNat+h.toNat)%n:=by rw [zeg (by omega)];congr 1;omega
  have e1:((b+h).tmod n+k).toNat-((b+h).tmod n).toNat=k.toNat:=by omega
  have e2:(h+k).toNat=h.toNat+(s.take k.toNat).length:=by simp;omega
  have e3:List.take (min (List.take k.toNat s).length k.toNat) (List.take k.toNat s)=s.take k.toNat:=by
    rw [List.take_of_length_le];simp<;>omega
  rw [e1,e3,e2]
  by_cases h0:k=0
  ·subst h0
   simp only [Int.toNat_zero,List.take_zero,List.append_nil,List.length_nil,Nat.add_zero]
   have:zx l (off [(slO ((b+h).tmod n+0).toNat ((b+h).tmod n).toNat,1)]) []=l:=by simp [zx]
   rw [this];exact ⟨hl,rfl⟩
  ·rw [y7 (by omega),e0]
   have hoff:off [((b.toNat+h.toNat)%n,1)]=(b.toNat+h.toNat)%n:=by simp [off,zib]
   rw [hoff]
   have hlen:(s.take k.toNat).length=k.toNat:=by simp;omega
   have hfit:(b.toNat+h.toNat)%n+(s.take k.toNat).length≤l.length:=by omega
   refine ⟨by rw [xp hfit,hl],?_⟩
   subst hl
   refine zz8 (by omega) (by omega) (xp hfit) fun i hi=>?_
   rw [zcz hfit]
   have hpl:=place (n:=l.length) (b:=b.toNat) (a:=h.toNat) (by omega) (by omega)
   generalize (b.toNat+h.toNat)%l.length=p at*
   by_cases hpi:p≤i
   ·have:(i+l.length-p)%l.length=i-p:=by rw [Nat.mod_eq_sub_mod (by omega),Nat.mod_eq_of_lt (by omega)];omega
    rw [this]
    by_cases h3:i<p+(s.take k.toNat).length
    ·rw [if_pos ⟨hpi,h3⟩,if_pos (by omega)]
    ·rw [if_neg (by omega),if_neg (by omega)]
   ·have:(i+l.length-p)%l.length=i+l.length-p:=Nat.mod_eq_of_lt (by omega)
    rw [this,if_neg (by omega),if_neg (by omega)]
theorem zws {l s:List UInt8} {n:Nat} {b h k:Int} (hl:l.length=n) (hb:0≤b) (hb':b<n) (hh:0≤h) (hh':h≤n) (hk:0≤k) (hks:k≤s.length) (hkn:k≤n-h) (hp: ¬(b+h).tmod n+k≤n):
    off []+min (List.take (k.toNat-((min (List.take k.toNat s).length (n-((b+h).tmod n).toNat):Nat):Int).toNat) (List.drop ((min (List.take k.toNat s).length (n-((b+h).tmod n).toNat):Nat):Int).toNat s)).length (k-n+(b+h).tmod n).toNat≤
      (zx l (off [(slO n ((b+h).tmod n).toNat,1)]) (List.take (min (List.take k.toNat s).length (n-((b+h).tmod n).toNat)) (List.take k.toNat s))).length:=by
  have hm0:0≤(b+h).tmod n:=Int.tmod_nonneg _ (by omega)
  have hm1:(b+h).tmod n<n:=Int.tmod_lt_of_pos _ (by omega)
  rw [xp]
  ·simp only [off,List.length_take,List.length_drop];omega
  ·rw [y7 (by omega)]
   simp only [off,zib,List.length_take];omega
theorem ybw {l s:List UInt8} {n:Nat} {b h k:Int} (hl:l.length=n) (hb:0≤b) (hb':b<n) (hh:0≤h) (hh':h≤n) (hk:0≤k) (hks:k≤s.length) (hkn:k≤n-h) (hp: ¬(b+h).tmod n+k≤n):
    (zx (zx l (off [(slO n ((b+h).tmod n).toNat,1)]) (List.take (min (List.take k.toNat s).length (n-((b+h).tmod n).toNat)) (List.take k.toNat s))) (off []) (List.take (min (List.take (k.toNat-((min (List.take k.toNat s).length (n-((b+h).tmod n).toNat):Nat):Int).toNat) (List.drop ((min (List.take k.toNat s).length (n-((b+h).tmod n).toNat):Nat):Int).toNat s)).length (k-n+(b+h).tmod n).toNat) (List.take (k.toNat-((min (List.take k.toNat s).length (n-((b+h).tmod n).toNat):Nat):Int).toNat) (List.drop ((min (List.take k.toNat s).length (n-((b+h).tmod n).toNat):Nat):Int).toNat s)))).length=n∧zl (zx (zx l (off [(slO n ((b+h).tmod n).toNat,1)]) (List.take (min (List.take k.toNat s).length (n-((b+h).tmod n).toNat)) (List.take k.toNat s))) (off []) (List.take (min (List.take (k.toNat-((min (List.take k.toNat s).length (n-((b+h).tmod n).toNat):Nat):Int).toNat) (List.drop ((min (List.take k.toNat s).length (n-((b+h).tmod n).toNat):Nat):Int).toNat s)).length (k-n+(b+h).tmod n).toNat) (List.take (k.toNat-((min (List.take k.toNat s).length (n-((b+h).tmod n).toNat):Nat):Int).toNat) (List.drop ((min (List.take k.toNat s).length (n-((b+h).tmod n).toNat):Nat):Int).toNat s)))) b.toNat (h+k).toNat=zl l b.toNat h.toNat++s.take k.toNat:=by
  have hm0:0≤(b+h).tmod n:=Int.tmod_nonneg _ (by omega)
  have hm1:(b+h).tmod n<n:=Int.tmod_lt_of_pos _ (by omega)
  have e0:((b+h).tmod n).toNat=(b.toNat+h.toNat)%n:=by rw [zeg (by omega)];congr 1;omega
  have hpp:(b.toNat+h.toNat)%n<n:=Nat.mod_lt _ (by omega)
  have hpk:n<(b.toNat+h.toNat)%n+k.toNat:=by omega
  have e5:(k-n+(b+h).tmod n).toNat=k.toNat-(n-(b.toNat+h.toNat)%n):=by omega
  have e2:(h+k).toNat=h.toNat+(s.take k.toNat).length:=by simp;omega
  rw [e5,y7 (by omega),e0,e2]
  have hoff:off [((b.toNat+h.toNat)%n,1)]=(b.toNat+h.toNat)%n:=by simp [off,zib]
  have hpl:=place (n:=n) (b:=b.toNat) (a:=h.toNat) (by omega) (by omega)
  have hks':k.toNat≤s.length:=by omega
  have hkn':k.toNat≤n-h.toNat:=by omega
  have hhn:h.toNat≤n:=by omega
  have hbn:b.toNat<n:=by omega
  rw [hoff]
  generalize k.toNat=k' at*
  generalize h.toNat=h' at*
  generalize b.toNat=b' at*
  have e3:(min (List.take k' s).length (n-(b'+h')%n))=n-(b'+h')%n:=by simp;omega
  rw [e3]
  have e4:((n-(b'+h')%n:Nat):Int).toNat=n-(b'+h')%n:=Int.toNat_natCast _
  rw [e4]
  have e6:off []=0:=rfl
  rw [e6]
  generalize hq:(b'+h')%n=p at*
  have f1:(List.take (n-p) (List.take k' s)).length=n-p:=by simp;omega
  have f2:(List.take (min (List.take (k'-(n-p)) (List.drop (n-p) s)).length (k'-(n-p))) (List.take (k'-(n-p)) (List.drop (n-p) s))).length=k'-(n-p):=by simp;omega
  have g1:p+(List.take (n-p) (List.take k' s)).length≤l.length:=by omega
  have g2:0+(List.take (min (List.take (k'-(n-p)) (List.drop (n-p) s)).length (k'-(n-p))) (List.take (k'-(n-p)) (List.drop (n-p) s))).length≤(zx l p (List.take (n-p) (List.take k' s))).length:=by
    rw [xp g1];omega
  have hlen:(s.take k').length=k':=by simp;omega
  refine ⟨by rw [xp g2,xp g1,hl],?_⟩
  subst hl
  refine zz8 (by omega) (by omega) (by rw [xp g2,xp g1]) fun i hi=>?_
  rw [hq,zcz g2,zcz g1,f1,f2,hlen]
  by_cases hpi:p≤i
  ·have:(i+l.length-p)%l.length=i-p:=by rw [Nat.mod_eq_sub_mod (by omega),Nat.mod_eq_of_lt (by omega)];omega
   rw [this,if_neg (by omega),if_pos (by omega),if_pos (by omega),List.getElem?_take,if_pos (by omega)]
  ·have:(i+l.length-p)%l.length=i+l.length-p:=Nat.mod_eq_of_lt (by omega)
   rw [this]
   by_cases h3:i<k'-(l.length-p)
   ·rw [if_pos (by omega),if_pos (by omega),List.getElem?_take,if_pos (by simp;omega),List.getElem?_take,if_pos (by omega),List.getElem?_drop,List.getElem?_take,if_pos (by omega)]
    congr 1;omega
   ·rw [if_neg (by omega),if_neg (by omega),if_neg (by omega)]
end Go.Sym.Ring

namespace Go.Sym.Z
open Go Go.Proofs.Tryz Go.Sym.Lp Go.Sym.Ring
set_option maxRecDepth 100000
def yl4:List (Nat×List PStep):= [(3,[⟨0,[]⟩,⟨1,[]⟩,⟨2,[]⟩,⟨3,[]⟩,⟨4,[]⟩,⟨5,[0,1,2,3,4]⟩,⟨6,[0,1,2,3,4]⟩,⟨7,[0,1,2,3,4]⟩,⟨8,[0,1,2,3,4]⟩,⟨9,[]⟩,⟨10,[]⟩])]
def yl3:List (Nat×List PStep):= [(4,[⟨0,[]⟩,⟨1,[]⟩,⟨2,[]⟩,⟨3,[]⟩,⟨4,[0,1,2,3]⟩,⟨5,[]⟩,⟨6,[0,1,2,3,4,5]⟩,⟨7,[0,1,2,3,4,5]⟩,⟨8,[0,1,2,3,4,5]⟩,⟨9,[0,1,2,3,4,5]⟩,⟨10,[0,1,2,3,4,5,6,7,8,9]⟩,⟨11,[0,1,2,3,4,5,6,7,8,9,10]⟩,⟨12,[0,1,2,3,4,5,6,7,8,9,10]⟩,⟨13,[0,1,2,3,4,5,6,7,8,9,10]⟩,⟨14,[0,1,2,3,4,5,6,7,8,9,10]⟩,⟨15,[0,1,2,3,4,5,6,7,8,9,10]⟩,⟨16,[0,1,2,3,4,5,6,7,8,9]⟩,⟨17,[0,1,2,3,4,5,6,7,8,9,10,11,12,13,14,15,16]⟩,⟨18,[0,1,2,3,4,5,6,7,8,9]⟩,⟨19,[0,1,2,3,4,5,6,7,8,9,10,11,12,13,14,15,16,17,18]⟩,⟨20,[0,1,2,3,4,5,6,7,8,9,10,11,12,13,14,15,16,17,18,19]⟩,⟨21,[0,1,2,3,4,5,6,7,8,9,10,11,12,13,14,15,16,17,18,19]⟩,⟨22,[0,1,2,3,4,5,6,7,8,9,10,11,12,13,14,15,16,17,18,19]⟩,⟨23,[0,1,2,3,4,5,6,7,8,9,10,11,12,13,14,15,16,17,18,19]⟩,⟨24,[0,1,2,3,4,5,6,7,8,9,10,11,12,13,14,15,16,17,18,19]⟩,⟨25,[0,1,2,3,4,5,6,7,8,9,10,11,12,13,14,15,16,17,18]⟩,⟨26,[0,1,2,3,4,5,6,7,8,9,10,11,12,13,14,15,16,17,18,19,20,21,22,23,24,25]⟩,⟨27,[0,1,2,3,4,5,6,7,8,9,10,11,12,13,14,15,16,17,18]⟩,⟨28,[0,1,2,3,4,5]⟩,⟨29,[6,7,8,9,10,11,12,13,14,15,16,17,18,19,20,21,22,23,24,25,26,27,28]⟩,⟨30,[]⟩])]
def yk3:List (Nat×List PStep):= [(0,[⟨0,[]⟩,⟨1,[0]⟩,⟨2,[0]⟩,⟨3,[0]⟩,⟨4,[0]⟩,⟨5,[0,1,2,3,4]⟩,⟨6,[0]⟩,⟨7,[0,1,2,3,4,5,6]⟩,⟨8,[0,1,2,3,4,5,6]⟩,⟨9,[0,1,2,3,4,5,6]⟩,⟨10,[0,1,2,3,4,5,6]⟩,⟨11,[0,1,2,3,4,5,6]⟩,⟨12,[0]⟩,⟨13,[]⟩,⟨14,[]⟩,⟨15,[]⟩])]
def yic:List (Nat×List PStep):= []
def yk4:List (Nat×List PStep):= [(4,[⟨0,[]⟩,⟨1,[0]⟩,⟨2,[0]⟩,⟨3,[0]⟩,⟨4,[0]⟩,⟨5,[0,1,2,3,4]⟩,⟨6,[0,1,2,3,4]⟩,⟨7,[0,1,2,3,4]⟩,⟨8,[0,1,2,3,4]⟩,⟨9,[0]⟩,⟨10,[0,1,2,3,4,5,6,7,8,9]⟩,⟨11,[]⟩,⟨12,[]⟩,⟨13,[]⟩,⟨14,[13]⟩,⟨15,[14]⟩,⟨16,[]⟩])]
def yli:List (Nat×List PStep):= []
def yio:List (Nat×List PStep):= []
def yl6:List (Nat×List PStep):= []
def yl8:List (Nat×List PStep):= []
def yl5:List (Nat×TyI):= [(3,ty3),(4,ty4),(5,ty5),(9,ty9),(48,zd6),(51,zeb),(113,xw),(99,xj),(121,zf8),(93,zmm)]
theorem zds: ∀t i,y8 yl5 t=some i→yt prog t i:=(zc zbg (zc zbj (zc zbc (zc zbf (zc zaq (zc zap (zc zai (zc za6 (zc ze3 (zc zhy x1))))))))))
def z9d:Spec:=fun args hp K=>match args,hp with
  | [.ptr 0 0 0 []],[.mk t [.sl 1 0 0 [] n c,.int b,.int h],.mk u [.arr8 m l]]=>K (.int h) [.mk t [.sl 1 0 0 [] n c,.int b,.int h],.mk u [.arr8 m l]]
  |_,_=>False
theorem z5i:zp prog 60 z9d:=by
  refine zm zds zi rfl func60 rfl call60 (D:=yl6) ?_ ?_
  ·intro args hp K h
   unfold z9d at h
   split at h
   ·exact Nat.le_of_ble_eq_true rfl
   ·exact h.elim
  ·intro args hp K h
   unfold z9d at h
   split at h
   ·refine za ?_
    exact zf [0,1] h
   ·exact h.elim
def zx1:Spec:=fun args hp K=>match args,hp with
  | [.ptr 0 0 0 []],[.mk t [.sl 1 0 0 [] n c,.int b,.int h],.mk u [.arr8 m l]]=>Pre (yj n c m l b h) (K (.int (n-h)) [.mk t [.sl 1 0 0 [] n c,.int b,.int h],.mk u [.arr8 m l]])
  |_,_=>False
theorem ycb:zp prog 80 zx1:=by
  refine zm zds zi rfl func80 rfl call80 (D:=yl4) ?_ ?_
  ·intro args hp K h
   unfold zx1 at h
   split at h
   ·exact Nat.le_of_ble_eq_true rfl
   ·exact h.elim
  ·intro args hp K h
   unfold zx1 at h
   split at h
   ·rename_i t n c b hh u m l
    obtain ⟨h0,h⟩:=zq h
    unfold yj at h0
    refine za ?_
    exact zf [0,1] h
   ·exact h.elim
def zs9:Spec:=fun args hp K=>match args,hp with
  | [.ptr 0 0 0 [],.int a,.int k],[.mk t [.sl 1 0 0 [] n c,.int b,.int h],.mk u [.arr8 m l]]=>
    Pre (yj n c m l b h∧0≤a∧0≤k∧k≤n∧a≤1048576*4)
      (ye (decide (a.tmod n+k≤n))
        (K (.tup [.sl 1 0 0 [(slO (a.tmod n+k).toNat (a.tmod n).toNat,1)] ((a.tmod n+k).toNat-(a.tmod n).toNat) ((a.tmod n+k).toNat-(a.tmod n).toNat),.nilsl]) [.mk t [.sl 1 0 0 [] n c,.int b,.int h],.mk u [.arr8 m l]])
        (K (.tup [.sl 1 0 0 [(slO c (a.tmod n).toNat,1)] (n-(a.tmod n).toNat) (c-(a.tmod n).toNat),.sl 1 0 0 [] (k-n+a.tmod n).toNat (k-n+a.tmod n).toNat]) [.mk t [.sl 1 0 0 [] n c,.int b,.int h],.mk u [.arr8 m l]]))
  |_,_=>False
theorem znn:zp prog 81 zs9:=by
  refine zm zds zi rfl func81 rfl call81 (D:=yl3) ?_ ?_
  ·intro args hp K h
   unfold zs9 at h
   split at h
   ·exact Nat.le_of_ble_eq_true rfl
   ·exact h.elim
  ·intro args hp K h
   unfold zs9 at h
   split at h
   ·rename_i a k t n c b hh u m l
    obtain ⟨⟨h0,h1⟩,h⟩:=zq h
    unfold yj at h0
    obtain ⟨ht,hf⟩:=z8 h
    have hm0:0≤a.tmod n:=Int.tmod_nonneg _ (by omega)
    have hm1:a.tmod n<n:=Int.tmod_lt_of_pos _ (by omega)
    by_cases hc:a.tmod n+k≤n
    ·have h:=ht (decide_eq_true hc)
     refine za ?_
     exact zf [0,1] h
    ·have h:=hf (decide_eq_false hc)
     refine za ?_
     exact zf [0,1] h
   ·exact h.elim
def zyj:Spec:=fun args hp K=>match args,hp with
  | [.ptr 0 0 0 [],.int k],[.mk t [.sl 1 0 0 [] n c,.int b,.int h],.mk u [.arr8 m l]]=>
    Pre (yj n c m l b h∧0≤k∧k≤h) (K (.tup []) [.mk t [.sl 1 0 0 [] n c,.int ((b+k).tmod n),.int (h-k)],.mk u [.arr8 m l]])
  |_,_=>False
theorem yc4:zp prog 84 zyj:=by
  refine zm zds zi rfl func84 rfl call84 (D:=yk3) ?_ ?_
  ·intro args hp K h
   unfold zyj at h
   split at h
   ·exact Nat.le_of_ble_eq_true rfl
   ·exact h.elim
  ·intro args hp K h
   unfold zyj at h
   split at h
   ·rename_i k t n c b hh u m l
    obtain ⟨⟨h0,h1⟩,h⟩:=zq h
    unfold yj at h0
    refine za ?_
    exact zf [0,1] h
   ·exact h.elim
def zxx:Spec:=fun args hp K=>match args,hp with
  | [.ptr 0 0 0 [],.int a,.int k],[.mk t [.sl 1 0 0 [] n c,.int b,.int h],.mk u [.arr8 m l]]=>
    Pre (yj n c m l b h) (K (.bool (decide (0≤a∧0≤k∧a≤h∧k≤h-a))) [.mk t [.sl 1 0 0 [] n c,.int b,.int h],.mk u [.arr8 m l]])
  |_,_=>False
theorem z0c:zp prog 109 zxx:=by
  refine zm zds zi rfl func109 rfl call109 (D:=yic) ?_ ?_
  ·intro args hp K h
   unfold zxx at h
   split at h
   ·exact Nat.le_of_ble_eq_true rfl
   ·exact h.elim
  ·intro args hp K h
   unfold zxx at h
   split at h
   ·rename_i a k t n c b hh u m l
    obtain ⟨h0,h⟩:=zq h
    unfold yj at h0
    by_cases h1:0≤a
    ·by_cases h2:0≤k
     ·by_cases h3:a≤hh
      ·have e:decide (0≤a∧0≤k∧a≤hh∧k≤hh-a)=decide (k≤hh-a):=by
         by_cases h4:k≤hh-a
         ·rw [decide_eq_true h4,decide_eq_true ⟨h1,h2,h3,h4⟩]
         ·rw [decide_eq_false h4,decide_eq_false fun hh=>h4 hh.2.2.2]
       rw [e] at h
       refine za ?_
       exact zf [0,1] h
      ·rw [decide_eq_false fun hh=>h3 hh.2.2.1] at h
       refine za ?_
       exact zf [0,1] h
     ·rw [decide_eq_false fun hh=>h2 hh.2.1] at h
      refine za ?_
      exact zf [0,1] h
    ·rw [decide_eq_false fun hh=>h1 hh.1] at h
     refine za ?_
     exact zf [0,1] h
   ·exact h.elim
def zyl:Spec:=fun args hp K=>match args,hp with
  | [.int z],[]=>Pre (1≤z∧z≤262144) (K (.tup [.ptr 0 0 0 [],.int 0]) [.mk 121 [.sl 1 0 0 [] z.toNat z.toNat,.int 0,.int 0],.mk 5 [.arr8 z.toNat (List.replicate z.toNat 0)]])
  |_,_=>False
theorem yb2:zp prog 57 zyl:=by
  refine zm zds zi rfl func57 rfl call57 (D:=yl8) ?_ ?_
  ·intro args hp K h
   unfold zyl at h
   split at h
   ·exact Nat.le_of_ble_eq_true rfl
   ·exact h.elim
  ·intro args hp K h
   unfold zyl at h
   split at h
   ·rename_i z
    obtain ⟨h0,h⟩:=zq h
    refine za ?_
    exact zf [1,0] h
   ·exact h.elim
def zy1:Spec:=fun args hp K=>match args,hp with
  | [.ptr 0 0 0 [],.int a,.int k],[.mk t [.sl 1 0 0 [] n c,.int b,.int h],.mk u [.arr8 m l]]=>
    Pre (yj n c m l b h) (ye (decide (0≤a∧0≤k∧a≤h∧k≤h-a))
      (K (.tup [.str (((zl l b.toNat h.toNat).drop a.toNat).take k.toNat),.int 0]) [.mk t [.sl 1 0 0 [] n c,.int b,.int h],.mk u [.arr8 m l]])
      (K (.tup [.str [],.int 2200]) [.mk t [.sl 1 0 0 [] n c,.int b,.int h],.mk u [.arr8 m l]]))
  |_,_=>False
theorem z0r:zp prog 82 zy1:=by
  refine zm zds (zd z0c (zd znn zi)) rfl func82 rfl call82 (D:=yli) ?_ ?_
  ·intro args hp K h
   unfold zy1 at h
   split at h
   ·exact Nat.le_of_ble_eq_true rfl
   ·exact h.elim
  ·intro args hp K h
   unfold zy1 at h
   split at h
   ·rename_i a k t n c b hh u m l
    obtain ⟨h0',h⟩:=zq h
    have h0:=h0'
    unfold yj at h0
    obtain ⟨ht,hf⟩:=z8 h
    by_cases hc:0≤a∧0≤k∧a≤hh∧k≤hh-a
    ·have h:=ht (decide_eq_true hc)
     have dc:=decide_eq_true hc
     have hm0:0≤(b+a).tmod n:=Int.tmod_nonneg _ (by omega)
     have hm1:(b+a).tmod n<n:=Int.tmod_lt_of_pos _ (by omega)
     by_cases hd:(b+a).tmod n+k≤n
     ·have hs:=zix ((b+a).tmod n+k).toNat ((b+a).tmod n).toNat
      repeat ((conv=>whnf);first|refine zu ?_|refine zg ?_|refine zh ?_|refine zb ?_|refine zr (by first|exact dc|(rw [dc];rfl)) ?_|refine zj (by first|exact dc|(rw [dc];rfl)) ?_|refine zk (by first|exact dc|(rw [dc];rfl)) ?_)
      conv=>whnf
      refine yu (hp':= [.mk t [.sl 1 0 0 [] n c,.int b,.int hh],.mk u [.arr8 m l]]) [0,1] h ?_
      repeat ((conv=>whnf);refine zb ?_)
      conv=>whnf
      exact zo (by rw [zq6 (n:=n) (h:=hh) (by omega) (by omega) (by omega) (by omega) (by omega) (by omega) (by omega) (by omega) hd,List.append_nil];rfl)
     ·have hs:=zix c ((b+a).tmod n).toNat
      have hcn:c=n:=by omega
      subst hcn
      repeat ((conv=>whnf);first|refine zu ?_|refine zg ?_|refine zh ?_|refine zb ?_|refine zr (by first|exact dc|(rw [dc];rfl)) ?_|refine zj (by first|exact dc|(rw [dc];rfl)) ?_|refine zk (by first|exact dc|(rw [dc];rfl)) ?_)
      conv=>whnf
      refine yu (hp':= [.mk t [.sl 1 0 0 [] c c,.int b,.int hh],.mk u [.arr8 m l]]) [0,1] h ?_
      repeat ((conv=>whnf);refine zb ?_)
      conv=>whnf
      exact zo (by rw [zrt (h:=hh) (by omega) (by omega) (by omega) (by omega) (by omega) (by omega) (by omega) (by omega) hd];rfl)
    ·have h:=hf (decide_eq_false hc)
     have dc:=decide_eq_false hc
     repeat ((conv=>whnf);first|refine zu ?_|refine zg ?_|refine zh ?_|refine zb ?_|refine zr (by first|exact dc|(rw [dc];rfl)) ?_|refine zj (by first|exact dc|(rw [dc];rfl)) ?_|refine zk (by first|exact dc|(rw [dc];rfl)) ?_)
     conv=>whnf
     exact zf [0,1] h
   ·exact h.elim
def zmw:Spec:=fun args hp K=>match args,hp with
  | [.ptr 0 0 0 [],.int a,.int k],[.mk t [.sl 1 0 0 [] n c,.int b,.int h],.mk u [.arr8 m l]]=>
    Pre (yj n c m l b h∧0≤a∧0≤k∧a≤h∧k≤h-a)
      (ye (decide ((b+a).tmod n+k≤n))
        (K (.tup [.sl 1 0 0 [(slO ((b+a).tmod n+k).toNat ((b+a).tmod n).toNat,1)] (((b+a).tmod n+k).toNat-((b+a).tmod n).toNat) (((b+a).tmod n+k).toNat-((b+a).tmod n).toNat),.nilsl]) [.mk t [.sl 1 0 0 [] n c,.int b,.int h],.mk u [.arr8 m l]])
        (K (.tup [.sl 1 0 0 [(slO c ((b+a).tmod n).toNat,1)] (n-((b+a).tmod n).toNat) (c-((b+a).tmod n).toNat),.sl 1 0 0 [] (k-n+(b+a).tmod n).toNat (k-n+(b+a).tmod n).toNat]) [.mk t [.sl 1 0 0 [] n c,.int b,.int h],.mk u [.arr8 m l]]))
  |_,_=>False
theorem z4g:zp prog 110 zmw:=by
  refine zm zds (zd z0c (zd znn zi)) rfl func110 rfl call110 (D:=yio) ?_ ?_
  ·intro args hp K h
   unfold zmw at h
   split at h
   ·exact Nat.le_of_ble_eq_true rfl
   ·exact h.elim
  ·intro args hp K h
   unfold zmw at h
   split at h
   ·rename_i a k t n c b hh u m l
    obtain ⟨⟨h0',hc⟩,h⟩:=zq h
    have h0:=h0'
    unfold yj at h0
    have dc:=decide_eq_true hc
    obtain ⟨ht,hf⟩:=z8 h
    by_cases hd:(b+a).tmod n+k≤n
    ·have h:=ht (decide_eq_true hd)
     repeat ((conv=>whnf);first|refine zu ?_|refine zg ?_|refine zh ?_|refine zb ?_|refine zr (by first|exact dc|(rw [dc];rfl)) ?_|refine zj (by first|exact dc|(rw [dc];rfl)) ?_|refine zk (by first|exact dc|(rw [dc];rfl)) ?_)
     conv=>whnf
     exact zf [0,1] h
    ·have h:=hf (decide_eq_false hd)
     repeat ((conv=>whnf);first|refine zu ?_|refine zg ?_|refine zh ?_|refine zb ?_|refine zr (by first|exact dc|(rw [dc];rfl)) ?_|refine zj (by first|exact dc|(rw [dc];rfl)) ?_|refine zk (by first|exact dc|(rw [dc];rfl)) ?_)
     conv=>whnf
     exact zf [0,1] h
   ·exact h.elim
def z93:Spec:=fun args hp K=>match args,hp with
  | [.ptr 0 0 0 [],.str s],[.mk t [.sl 1 0 0 [] n c,.int b,.int h],.mk u [.arr8 m l]]=>
    Pre (yj n c m l b h∧s.length≤4611686018427387904) (zaz fun l':List UInt8=>(l'.length=n∧zl l' b.toNat (h+min (s.length:Int) (n-h)).toNat=zl l b.toNat h.toNat++s.take (min (s.length:Int) (n-h)).toNat)→
      K (.int (min (s.length:Int) (n-h))) [.mk t [.sl 1 0 0 [] n c,.int b,.int (h+min (s.length:Int) (n-h))],.mk u [.arr8 m l']])
  |_,_=>False
set_option maxHeartbeats 4000000 in
theorem yex:zp prog 59 z93:=by
  refine zm zds (zd znn (zd ycb zi)) rfl func59 rfl call59 (D:=yk4) ?_ ?_
  ·intro args hp K h
   unfold z93 at h
   split at h
   ·exact Nat.le_of_ble_eq_true rfl
   ·exact h.elim
  ·intro args hp K h
   unfold z93 at h
   split at h
   ·rename_i s t n c b hh u m l
    obtain ⟨⟨h0',hsl⟩,h⟩:=zq h
    have h0:=h0'
    unfold yj at h0
    have h:=x0 h
    obtain ⟨km,hkm⟩: ∃km,km=min (s.length:Int) (n-hh):=⟨_,rfl⟩
    rw [←hkm] at h
    have hm0:0≤(b+hh).tmod n:=Int.tmod_nonneg _ (by omega)
    have hm1:(b+hh).tmod n<n:=Int.tmod_lt_of_pos _ (by omega)
    refine za ?_
    rw [←hkm]
    by_cases hd:(b+hh).tmod n+km≤n
    ·have hs:=zix ((b+hh).tmod n+km).toNat ((b+hh).tmod n).toNat
     refine za ?_
     refine yu (hp':= [.mk t [.sl 1 0 0 [] n c,.int b,.int (hh+km)],.mk u [.arr8 m (zx l (off [(slO ((b+hh).tmod n+km).toNat ((b+hh).tmod n).toNat,1)]) (List.take (min (List.take km.toNat s).length (((b+hh).tmod n+km).toNat-((b+hh).tmod n).toNat)) (List.take km.toNat s)))]]) [0,1] (h _ ?_) ?_
     ·exact yc0 (by omega) (by omega) (by omega) (by omega) (by omega) (by omega) (by omega) (by omega) hd
     exact zn
    ·have hs:=zix c ((b+hh).tmod n).toNat
     have hcn:c=n:=by omega
     subst hcn
     have hp2:=zws (l:=l) (s:=s) (n:=c) (b:=b) (h:=hh) (k:=km) (by omega) (by omega) (by omega) (by omega) (by omega) (by omega) (by omega) (by omega) hd
     refine za ?_
     refine yu (hp':= [.mk t [.sl 1 0 0 [] c c,.int b,.int (hh+km)],.mk u [.arr8 m (zx (zx l (off [(slO c ((b+hh).tmod c).toNat,1)]) (List.take (min (List.take km.toNat s).length (c-((b+hh).tmod c).toNat)) (List.take km.toNat s))) (off []) (List.take (min (List.take (km.toNat-((min (List.take km.toNat s).length (c-((b+hh).tmod c).toNat):Nat):Int).toNat) (List.drop ((min (List.take km.toNat s).length (c-((b+hh).tmod c).toNat):Nat):Int).toNat s)).length (km-c+(b+hh).tmod c).toNat) (List.take (km.toNat-((min (List.take km.toNat s).length (c-((b+hh).tmod c).toNat):Nat):Int).toNat) (List.drop ((min (List.take km.toNat s).length (c-((b+hh).tmod c).toNat):Nat):Int).toNat s))))]]) [0,1] (h _ ?_) ?_
     ·exact ybw (by omega) (by omega) (by omega) (by omega) (by omega) (by omega) (by omega) (by omega) hd
     exact zn
   ·exact h.elim
end Go.Sym.Z
