/-
  Contracts of functions of the program, each said of symbolic values, and plain laws; no condition beyond each statement's own.
-/
import Derived.Test.YtmmpgjcpielefaaGreatGLStreamActs31
set_option linter.unusedSimpArgs false
set_option linter.unusedVariables false
namespace Go.Sym.Z
open Go Go.Proofs.Tryz Go.Sym.Lp Go.Sym.Ring Go.Sym.Cha Go.Sym.Sha Go.Sym.Hk Go.Sym.Gcm
set_option maxRecDepth 100000
def yk8:List (Nat×List PStep):= []
def ymn:List (Nat×TyI):= [(3,ty3),(4,ty4),(5,ty5),(9,ty9),(48,zd6),(51,zeb),(113,xw),(99,xj),(103,zgc),(68,zmk),(70,zmn),(104,zgh),(97,zqc),(56,zpa),(121,zf8),(93,zmm),(43,zlv),(78,zs0),(27,zuk)]
theorem yae: ∀t i,y8 ymn t=some i→yt prog t i:=(zc zbg (zc zbj (zc zbc (zc zbf (zc zaq (zc zap (zc zai (zc za6 (zc ze7 (zc zhz (zc zhv (zc zfh (zc zj3 (zc zjx (zc ze3 (zc zhy (zc zf5 (zc zui (zc ztp x1)))))))))))))))))))
def rK (ro:Bool) (rs:Int) (rk ri:List UInt8) (rc:Int):Option Kq:=match ro with
  |true=>some ⟨rs,rk,ri,rc⟩
  |false=>none
def rcN (rc:Int):Option Kq→Int
  |some k=>k.m
  |none=>rc
def z0t:Spec:=fun args hp K=>match args,hp with
  | [.ptr 0 0 0 []],[.mk t0 [.int p,.int rg,.int rs,.str rk,.str ri,.int rc,.bool ro,.int ws,.str wk,.str wi,.int wc,.bool wo,.str held,.int f]]=>Pre ((ro=true→ze1 rs rk ri rc)∧(f= -1∨0≤f)∧held.length<9223372036854775808) (ye (decide (f= -1))
      (nxM (rK ro rs rk ri rc) held
        (fun k d R'=>K (.tup [.agg [.int k,.str d],.bool true,.int (-1)]) [.mk t0 [.int p,.int rg,.int rs,.str rk,.str ri,.int (rcN rc R'),.bool ro,.int ws,.str wk,.str wi,.int wc,.bool wo,.str (hR held),.int (-1)]])
        (fun a=>K (.tup [.agg [.int 0,.str []],.bool false,.int a]) [.mk t0 [.int p,.int rg,.int rs,.str rk,.str ri,.int rc,.bool ro,.int ws,.str wk,.str wi,.int wc,.bool wo,.str held,.int a]])
        (fun a=>K (.tup [.agg [.int 0,.str []],.bool false,.int a]) [.mk t0 [.int p,.int rg,.int rs,.str rk,.str ri,.int rc,.bool ro,.int ws,.str wk,.str wi,.int wc,.bool wo,.str held,.int a]]))
      (K (.tup [.agg [.int 0,.str []],.bool false,.int f]) [.mk t0 [.int p,.int rg,.int rs,.str rk,.str ri,.int rc,.bool ro,.int ws,.str wk,.str wi,.int wc,.bool wo,.str held,.int f]]))
  |_,_=>False
set_option maxHeartbeats 4000000 in
theorem z5d:zp prog 23 z0t:=z8f ybs (by
  intro args hp K h
  unfold z0t at h
  split at h
  ·rename_i t0 p rg rs rk ri rc ro ws wk wi wc wo held f
   obtain ⟨hpre,h⟩:=zq h
   unfold zt0
   refine zr hpre ?_
   obtain ⟨ht,hf⟩:=z8 h
   refine zbw (fun e=>?_) (fun e=>hf e)
   have h:=ht e
   clear ht hf
   unfold nxM at h
   obtain ⟨ht,hf⟩:=z8 h
   refine zbw (fun e=>ht e) (fun e=>?_)
   have h:=hf e
   clear ht hf
   cases ro
   ·obtain ⟨ht,hf⟩:=z8 h
    refine zbw (fun e=>?_) (fun e=>hf e)
    obtain ⟨ht,hf⟩:=z8 (ht e)
    refine zbw (fun e=>ht e) (fun e=>?_)
    exact zk rfl (hf e)
   ·obtain ⟨ht,hf⟩:=z8 h
    refine zbw (fun e=>?_) (fun e=>hf e)
    have ha:hA held true= -1:=of_decide_eq_true e
    obtain ⟨ht,hf⟩:=z8 (ht e)
    refine zbw (fun e=>ht e) (fun e=>?_)
    have h:=hf e
    clear ht hf
    unfold zu2 at h
    obtain ⟨ht,hf⟩:=z8 h
    by_cases hk:hK held=20
    ·exact zk (show (true&&decide (hK held=23))=false by rw [decide_eq_false (show ¬hK held=23 by omega)];rfl) (ht (decide_eq_true hk))
    ·have h:=hf (decide_eq_false hk)
     refine zj (show (true&&decide (hK held=23))=true by rw [decide_eq_true (yig ha hk)];rfl) ?_
     obtain ⟨ht,hf⟩:=z8 h
     refine zbw (fun e=>?_) (fun e=>hf (decide_eq_false (of_decide_eq_false e)))
     obtain ⟨ht,hf⟩:=z8 (ht (decide_eq_true (of_decide_eq_true e)))
     exact zbw (fun e=>ht e) (fun e=>hf e)
  ·exact h.elim)
structure AQ where
  W:Option Kq
  R:Option Kq
  rm:Int
  held:List UInt8
  f:Int
  l:List UInt8
  b:Int
  h:Int
structure AI (p z:Int) (q:AQ) (B:Nat):Prop where
  hp:0≤p∧p≤16384
  hz:33290≤z∧z≤262144
  hW:kOK q.W B
  hR:kOK q.R B
  hm:0≤q.rm∧q.rm≤(B:Int)
  he:q.f= -1→ ∀k,q.R=some k→q.rm=k.m
  hf:q.f= -1∨0≤q.f
  hr:yj z.toNat z.toNat z.toNat q.l q.b q.h
  hh:q.h=(q.held.length:Int)
  hs:q.f= -1→rst z.toNat q.b q.h q.l q.held
theorem AI.mono {p z:Int} {q:AQ} {B C:Nat} (h:AI p z q B) (hBC:B≤C):AI p z q C:=
  ⟨h.hp,h.hz,zjt h.hW hBC,zjt h.hR hBC,⟨h.hm.1,by have:=h.hm.2;omega⟩,h.he,h.hf,h.hr,h.hh,h.hs⟩
theorem AI.len {p z:Int} {q:AQ} {B:Nat} (h:AI p z q B):0≤q.h∧q.h≤z∧(q.held.length:Int)≤z∧q.held.length≤262144:=by
  have h1:=h.hr
  have h2:=h.hh
  have h3:=h.hz
  unfold yj at h1
  omega
theorem AI.ky {p z:Int} {q:AQ} {B:Nat} (h:AI p z q B) (hB:B≤1000000000):wOK q.W∧wOK q.R∧(∀k,q.R=some k→ze1 k.w k.key k.iv q.rm):=by
  have hm:=h.hm
  refine ⟨?_,?_,fun k hk=>?_⟩
  ·have:=h.hW
   generalize q.W=x at this
   cases x with
   |none=>trivial
   |some k=>obtain ⟨h1,h2,h3,h4,h5⟩:=this k rfl;exact ⟨h1,h2,h3,h4,by omega⟩
  ·have:=h.hR
   generalize q.R=x at this
   cases x with
   |none=>trivial
   |some k=>obtain ⟨h1,h2,h3,h4,h5⟩:=this k rfl;exact ⟨h1,h2,h3,h4,by omega⟩
  ·obtain ⟨h1,h2,h3,h4,h5⟩:=h.hR k hk
   exact ⟨h1,h2,h3,hm.1,by omega⟩
theorem zje {p z:Int} {W R:Option Kq} {rm:Int} {held:List UInt8} {l:List UInt8} {b h:Int} {B:Nat} (g:AI p z ⟨W,R,rm,held, -1,l,b,h⟩ B) {l':List UInt8} (h1:0≤5+hN held∧5+hN held≤(held.length:Int))
    (hl:l'.length=z.toNat∧zl l' ((b+(5+hN held)).tmod (z.toNat:Nat)).toNat (h-(5+hN held)).toNat=hR held):
    AI p z ⟨W,R,rm,hR held, -1,l',(b+(5+hN held)).tmod (z.toNat:Nat),h-(5+hN held)⟩ (B+1):=
  have hh:h=(held.length:Int):=g.hh
  have r:=z7g (g.hs rfl) (show 0≤5+hN held∧5+hN held≤h by omega) hl
  have g:=g.mono (Nat.le_succ B)
  ⟨g.hp,g.hz,g.hW,g.hR,g.hm,g.he,g.hf,r.1,r.2.2,fun _=>r⟩
theorem zrc {p z:Int} {W:Option Kq} {w:Int} {key iv:List UInt8} {m rm:Int} {held:List UInt8} {l:List UInt8} {b h:Int} {B:Nat} (g:AI p z ⟨W,some ⟨w,key,iv,m⟩,rm,held, -1,l,b,h⟩ B) {l':List UInt8} (h1:0≤5+hN held∧5+hN held≤(held.length:Int))
    (hl:l'.length=z.toNat∧zl l' ((b+(5+hN held)).tmod (z.toNat:Nat)).toNat (h-(5+hN held)).toNat=hR held):
    AI p z ⟨W,some ⟨w,key,iv,m+1⟩,rm+1,hR held, -1,l',(b+(5+hN held)).tmod (z.toNat:Nat),h-(5+hN held)⟩ (B+1):=
  have d:=zje g h1 hl
  ⟨d.hp,d.hz,d.hW,z4r g.hR,by have:=g.hm;simp only at this ⊢;omega,fun _ k hk=>by cases hk;have:=g.he rfl _ rfl;simp only at this ⊢;omega,.inl rfl,d.hr,d.hh,d.hs⟩
theorem zjb {p z:Int} {W R:Option Kq} {rm:Int} {held:List UInt8} {l:List UInt8} {b h:Int} {B:Nat} (g:AI p z ⟨W,R,rm,held, -1,l,b,h⟩ B) {a:Int} (ha:0≤a):AI p z ⟨W,R,rm,held,a,l,b,h⟩ (B+1):=
  have g:=g.mono (Nat.le_succ B)
  ⟨g.hp,g.hz,g.hW,g.hR,g.hm,fun e=>by simp only at e;omega,.inr ha,g.hr,g.hh,fun e=>by simp only at e;omega⟩
theorem z4j {p z:Int} {W:Option Kq} {w:Int} {key iv:List UInt8} {m rm:Int} {held:List UInt8} {l:List UInt8} {b h:Int} {B:Nat} (g:AI p z ⟨W,some ⟨w,key,iv,m⟩,rm,held, -1,l,b,h⟩ B) {a:Int} (ha:0≤a) {l':List UInt8} (hl:l'.length=z.toNat):AI p z ⟨W,some ⟨w,key,iv,m+1⟩,rm,held,a,l',b,h⟩ (B+1):=
  have k:=z4r g.hR
  have r:=zko g.hr hl
  have g:=g.mono (Nat.le_succ B)
  ⟨g.hp,g.hz,g.hW,k,g.hm,fun e=>by simp only at e;omega,.inr ha,r,g.hh,fun e=>by simp only at e;omega⟩
def rBz (p z:Int) (q:AQ):Blk:=match q.R,q.W with
  |none,none=> .mk 78 [.int p,.int z,.int 0,.str [],.str [],.int 0,.bool false,.int 0,.str [],.str [],.int 0,.bool false,.str q.held,.int q.f]
  |none,some k=> .mk 78 [.int p,.int z,.int 0,.str [],.str [],.int 0,.bool false,.int k.w,.str k.key,.str k.iv,.int k.m,.bool true,.str q.held,.int q.f]
  |some r,none=> .mk 78 [.int p,.int z,.int r.w,.str r.key,.str r.iv,.int q.rm,.bool true,.int 0,.str [],.str [],.int 0,.bool false,.str q.held,.int q.f]
  |some r,some k=> .mk 78 [.int p,.int z,.int r.w,.str r.key,.str r.iv,.int q.rm,.bool true,.int k.w,.str k.key,.str k.iv,.int k.m,.bool true,.str q.held,.int q.f]
def hpA (p z:Int) (q:AQ):List Blk:=stH p q.W q.R q.f z.toNat q.b q.h q.l++ [rBz p z q]
def sN:Option Kq→Option Kq→Nat
  |none,none=>3
  |some _,none=>4
  |none,some _=>4
  |some _,some _=>5
def drS:Spec:=fun args hp K=> ∃(p z:Int) (q:AQ) (B:Nat),args= [.ptr 0 0 0 [],.ptr (sN q.W q.R) 0 0 []]∧hp=hpA p z q∧AI p z q B∧B≤10000∧ ∀q',q'.W=q.W→q'.R.isSome=q.R.isSome→AI p z q' (B+31)→K (.bool true) (hpA p z q')
structure DS (p z:Int) (q0:AQ) (B:Nat) where
  k:Nat
  hk:k≤30
  q:AQ
  hW:q.W=q0.W
  hR:q.R.isSome=q0.R.isSome
  hq:AI p z q (B+k)
attribute [local irreducible] x3 exF kyF ivF y6 xq y3 inL ncF lnz iA hA hN hK za7 zcl hO hP hR hT iK hdF zl nxM nxR zdf yj
set_option maxHeartbeats 16000000 in
theorem z36:zp prog 38 drS:=by
  refine zm yae (zd zz1 (zd z5d zi)) rfl func38 rfl call38 (D:=yk8) ?_ ?_
  ·intro args hp K h
   obtain ⟨p,z,q,B,rfl,_⟩:=h
   exact Nat.le_of_ble_eq_true rfl
  ·intro args hp K h
   obtain ⟨p,z,⟨W,R,rm,held,f,l,b,hh⟩,B,rfl,rfl,hq,hB,h⟩:=h
   dsimp only at h
   rcases W with _|⟨aw,ak,ai,am⟩
   ·rcases R with _|⟨bw,bk,bi,bm⟩
    ·dsimp only [hpA,stH,xv,rBz,sN]
     conv=>whnf
     refine za ?_
     refine zt (DS p z ⟨none,none,rm,held,f,l,b,hh⟩ B) (fun s=>⟨[(0,.ptr 0 0 0 []),(1,.ptr 3 0 0 []),(5,.int (s.k:Nat))],hpA p z s.q⟩) (fun s=>30-s.k) ⟨0,Nat.zero_le _,⟨none,none,rm,held,f,l,b,hh⟩,rfl,rfl,hq⟩ [0,1,2,3] ?_ ?_
     ·exact zn
     ·intro s
      clear hq
      obtain ⟨k,hk,⟨W',R',rm,held,f,l,b,hh⟩,hW',hR',hq⟩:=s
      dsimp only at hW' hR'
      subst hW'
      rcases R' with _|⟨bw,bk,bi,bm⟩
      case' some=>exact Bool.noConfusion (show true=false from hR')
      case none=>
        have hlen:=hq.len
        have hky:=hq.ky (by omega)
        have hf0:=hq.hf
        have hp1:yj z.toNat z.toNat z.toNat l b hh∧wOK none:=⟨hq.hr,hky.2.1⟩
        have hp2:(false=true→ze1 0 [] [] 0)∧(f= -1∨0≤f)∧held.length<9223372036854775808:=⟨fun h=>Bool.noConfusion h,hf0,by have:=hlen.2.2.2;simp only at this;omega⟩
        have d0:(decide ((0:Int)=0)&&(decide (([]:List UInt8)= [])&&true))=true:=by rw [decide_eq_true rfl,decide_eq_true rfl];rfl
        by_cases hk30:k<30
        ·by_cases hfm:f= -1
         ·subst hfm
          have hrs:=hq.hs rfl
          have hc:=zvb hrs
          dsimp only at hc
          rcases zvz (held:=held) with ⟨ek,ed,e⟩|e|⟨aa,ha0,e⟩
          ·conv=>whnf
           refine za ?_
           rw [hc]
           refine zad ?_
           rw [e]
           conv=>whnf
           refine yi fun l' hl'=>?_
           refine za ?_
           refine zad ?_
           have e2:nxR (rK false 0 [] [] 0) held=_:=e
           rw [e2]
           have deq:(decide (ek=ek)&&(decide (ed=ed)&&true))=true:=by rw [decide_eq_true rfl,decide_eq_true rfl];rfl
           have hk5:=zhr e
           repeat ((conv=>whnf);first|refine zu ?_|refine zg ?_|refine zh ?_|refine zb ?_|refine zr (by first|(rw [deq];rfl)) ?_|refine zj (by first|(rw [deq];rfl)) ?_|refine zk (by first|(rw [deq];rfl)) ?_)
           conv=>whnf
           refine ⟨⟨k+1,by omega,⟨none,none,rm,hR held, -1,l',(b+(5+hN held)).tmod (z.toNat:Nat),hh-(5+hN held)⟩,rfl,rfl,zje hq hk5 hl'⟩,[0,1,2,3],by show 30-(k+1)<30-k;omega,?_⟩
           exact zn
          ·conv=>whnf
           refine za ?_
           rw [hc]
           refine zad ?_
           rw [e]
           conv=>whnf
           refine za ?_
           refine zad ?_
           have e2:nxR (rK false 0 [] [] 0) held=_:=e
           rw [e2]
           repeat ((conv=>whnf);first|refine zu ?_|refine zg ?_|refine zh ?_|refine zb ?_|refine zr (by first|(rw [d0];rfl)) ?_|refine zj (by first|(rw [d0];rfl)) ?_|refine zk (by first|(rw [d0];rfl)) ?_)
           conv=>whnf
           refine yr (h ⟨none,none,rm,held, -1,l,b,hh⟩ rfl rfl (hq.mono (by omega))) ?_
           exact zn
          ·conv=>whnf
           refine za ?_
           rw [hc]
           refine zad ?_
           rw [e]
           conv=>whnf
           refine za ?_
           refine zad ?_
           have e2:nxR (rK false 0 [] [] 0) held=_:=e
           rw [e2]
           have daa:decide (aa=aa)=true:=decide_eq_true rfl
           repeat ((conv=>whnf);first|refine zu ?_|refine zg ?_|refine zh ?_|refine zb ?_|refine zr (by first|(rw [d0];rfl)|(rw [daa];rfl)) ?_|refine zj (by first|(rw [d0];rfl)|(rw [daa];rfl)) ?_|refine zk (by first|(rw [d0];rfl)|(rw [daa];rfl)) ?_)
           conv=>whnf
           refine yr (h ⟨none,none,rm,held,aa,l,b,hh⟩ rfl rfl ((zjb hq ha0).mono (by omega))) ?_
           exact zn
         ·have dfm:=decide_eq_false hfm
          have daa:decide (f=f)=true:=decide_eq_true rfl
          conv=>whnf
          repeat ((conv=>whnf);first|refine zu ?_|refine zg ?_|refine zh ?_|refine zb ?_|refine zr (by first|exact dfm|(rw [dfm];rfl)|(rw [d0];rfl)|(rw [daa];rfl)) ?_|refine zj (by first|exact dfm|(rw [dfm];rfl)|(rw [d0];rfl)|(rw [daa];rfl)) ?_|refine zk (by first|exact dfm|(rw [dfm];rfl)|(rw [d0];rfl)|(rw [daa];rfl)) ?_)
          conv=>whnf
          refine yr (h ⟨none,none,rm,held,f,l,b,hh⟩ rfl rfl (hq.mono (by omega))) ?_
          exact zn
        ·conv=>whnf
         refine za ?_
         refine yr (h ⟨none,none,rm,held,f,l,b,hh⟩ rfl rfl (hq.mono (by omega))) ?_
         exact zn
    ·dsimp only [hpA,stH,xv,rBz,sN]
     conv=>whnf
     refine za ?_
     refine zt (DS p z ⟨none,(some ⟨bw,bk,bi,bm⟩),rm,held,f,l,b,hh⟩ B) (fun s=>⟨[(0,.ptr 0 0 0 []),(1,.ptr 4 0 0 []),(5,.int (s.k:Nat))],hpA p z s.q⟩) (fun s=>30-s.k) ⟨0,Nat.zero_le _,⟨none,(some ⟨bw,bk,bi,bm⟩),rm,held,f,l,b,hh⟩,rfl,rfl,hq⟩ [0,1,2,3,4] ?_ ?_
     ·exact zn
     ·intro s
      clear hq
      obtain ⟨k,hk,⟨W',R',rm,held,f,l,b,hh⟩,hW',hR',hq⟩:=s
      dsimp only at hW' hR'
      subst hW'
      rcases R' with _|⟨bw,bk,bi,bm⟩
      case' none=>exact Bool.noConfusion (show false=true from hR')
      case some=>
        have hlen:=hq.len
        have hky:=hq.ky (by omega)
        have hf0:=hq.hf
        have hp1:yj z.toNat z.toNat z.toNat l b hh∧wOK (some ⟨bw,bk,bi,bm⟩):=⟨hq.hr,hky.2.1⟩
        have hp2:(true=true→ze1 bw bk bi rm)∧(f= -1∨0≤f)∧held.length<9223372036854775808:=⟨fun _=>hky.2.2 _ rfl,hf0,by have:=hlen.2.2.2;simp only at this;omega⟩
        have d0:(decide ((0:Int)=0)&&(decide (([]:List UInt8)= [])&&true))=true:=by rw [decide_eq_true rfl,decide_eq_true rfl];rfl
        by_cases hk30:k<30
        ·by_cases hfm:f= -1
         ·subst hfm
          have hrs:=hq.hs rfl
          have hc:=zvb hrs
          dsimp only at hc
          have hrm:rm=bm:=hq.he rfl _ rfl
          subst hrm
          rcases zw6 (k:=⟨bw,bk,bi,rm⟩) (held:=held) with ⟨ek,ed,e⟩|⟨ek,ed,e⟩|e|⟨aa,ha0,e⟩|⟨aa,ha0,e⟩
          ·conv=>whnf
           refine za ?_
           rw [hc]
           refine zad ?_
           rw [e]
           conv=>whnf
           refine yi fun l' hl'=>?_
           refine za ?_
           refine zad ?_
           have e2:nxR (rK true bw bk bi rm) held=_:=e
           rw [e2]
           have deq:(decide (ek=ek)&&(decide (ed=ed)&&true))=true:=by rw [decide_eq_true rfl,decide_eq_true rfl];rfl
           have hk5:=zhr e
           repeat ((conv=>whnf);first|refine zu ?_|refine zg ?_|refine zh ?_|refine zb ?_|refine zr (by first|(rw [deq];rfl)) ?_|refine zj (by first|(rw [deq];rfl)) ?_|refine zk (by first|(rw [deq];rfl)) ?_)
           conv=>whnf
           refine ⟨⟨k+1,by omega,⟨none,(some ⟨bw,bk,bi,rm⟩),rm,hR held, -1,l',(b+(5+hN held)).tmod (z.toNat:Nat),hh-(5+hN held)⟩,rfl,rfl,zje hq hk5 hl'⟩,[0,1,2,3,4],by show 30-(k+1)<30-k;omega,?_⟩
           exact zn
          ·conv=>whnf
           refine za ?_
           rw [hc]
           refine zad ?_
           rw [e]
           conv=>whnf
           refine yi fun l' hl'=>?_
           refine za ?_
           refine zad ?_
           have e2:nxR (rK true bw bk bi rm) held=_:=e
           rw [e2]
           have deq:(decide (ek=ek)&&(decide (ed=ed)&&true))=true:=by rw [decide_eq_true rfl,decide_eq_true rfl];rfl
           have hk5:=zhr e
           repeat ((conv=>whnf);first|refine zu ?_|refine zg ?_|refine zh ?_|refine zb ?_|refine zr (by first|(rw [deq];rfl)) ?_|refine zj (by first|(rw [deq];rfl)) ?_|refine zk (by first|(rw [deq];rfl)) ?_)
           conv=>whnf
           refine ⟨⟨k+1,by omega,⟨none,(some ⟨bw,bk,bi,rm+1⟩),rm+1,hR held, -1,l',(b+(5+hN held)).tmod (z.toNat:Nat),hh-(5+hN held)⟩,rfl,rfl,zrc hq hk5 hl'⟩,[0,1,2,3,4],by show 30-(k+1)<30-k;omega,?_⟩
           exact zn
          ·conv=>whnf
           refine za ?_
           rw [hc]
           refine zad ?_
           rw [e]
           conv=>whnf
           refine za ?_
           refine zad ?_
           have e2:nxR (rK true bw bk bi rm) held=_:=e
           rw [e2]
           repeat ((conv=>whnf);first|refine zu ?_|refine zg ?_|refine zh ?_|refine zb ?_|refine zr (by first|(rw [d0];rfl)) ?_|refine zj (by first|(rw [d0];rfl)) ?_|refine zk (by first|(rw [d0];rfl)) ?_)
           conv=>whnf
           refine yr (h ⟨none,(some ⟨bw,bk,bi,rm⟩),rm,held, -1,l,b,hh⟩ rfl rfl (hq.mono (by omega))) ?_
           exact zn
          ·conv=>whnf
           refine za ?_
           rw [hc]
           refine zad ?_
           rw [e]
           conv=>whnf
           refine za ?_
           refine zad ?_
           have e2:nxR (rK true bw bk bi rm) held=_:=e
           rw [e2]
           have daa:decide (aa=aa)=true:=decide_eq_true rfl
           repeat ((conv=>whnf);first|refine zu ?_|refine zg ?_|refine zh ?_|refine zb ?_|refine zr (by first|(rw [d0];rfl)|(rw [daa];rfl)) ?_|refine zj (by first|(rw [d0];rfl)|(rw [daa];rfl)) ?_|refine zk (by first|(rw [d0];rfl)|(rw [daa];rfl)) ?_)
           conv=>whnf
           refine yr (h ⟨none,(some ⟨bw,bk,bi,rm⟩),rm,held,aa,l,b,hh⟩ rfl rfl ((zjb hq ha0).mono (by omega))) ?_
           exact zn
          ·conv=>whnf
           refine za ?_
           rw [hc]
           refine zad ?_
           rw [e]
           conv=>whnf
           refine yi fun l' hl'=>?_
           refine za ?_
           refine zad ?_
           have e2:nxR (rK true bw bk bi rm) held=_:=e
           rw [e2]
           have daa:decide (aa=aa)=true:=decide_eq_true rfl
           repeat ((conv=>whnf);first|refine zu ?_|refine zg ?_|refine zh ?_|refine zb ?_|refine zr (by first|(rw [d0];rfl)|(rw [daa];rfl)) ?_|refine zj (by first|(rw [d0];rfl)|(rw [daa];rfl)) ?_|refine zk (by first|(rw [d0];rfl)|(rw [daa];rfl)) ?_)
           conv=>whnf
           refine yr (h ⟨none,(some ⟨bw,bk,bi,rm+1⟩),rm,held,aa,l',b,hh⟩ rfl rfl ((z4j hq ha0 hl').mono (by omega))) ?_
           exact zn
         ·have dfm:=decide_eq_false hfm
          have daa:decide (f=f)=true:=decide_eq_true rfl
          conv=>whnf
          repeat ((conv=>whnf);first|refine zu ?_|refine zg ?_|refine zh ?_|refine zb ?_|refine zr (by first|exact dfm|(rw [dfm];rfl)|(rw [d0];rfl)|(rw [daa];rfl)) ?_|refine zj (by first|exact dfm|(rw [dfm];rfl)|(rw [d0];rfl)|(rw [daa];rfl)) ?_|refine zk (by first|exact dfm|(rw [dfm];rfl)|(rw [d0];rfl)|(rw [daa];rfl)) ?_)
          conv=>whnf
          refine yr (h ⟨none,(some ⟨bw,bk,bi,bm⟩),rm,held,f,l,b,hh⟩ rfl rfl (hq.mono (by omega))) ?_
          exact zn
        ·conv=>whnf
         refine za ?_
         refine yr (h ⟨none,(some ⟨bw,bk,bi,bm⟩),rm,held,f,l,b,hh⟩ rfl rfl (hq.mono (by omega))) ?_
         exact zn
   ·rcases R with _|⟨bw,bk,bi,bm⟩
    ·dsimp only [hpA,stH,xv,rBz,sN]
     conv=>whnf
     refine za ?_
     refine zt (DS p z ⟨(some ⟨aw,ak,ai,am⟩),none,rm,held,f,l,b,hh⟩ B) (fun s=>⟨[(0,.ptr 0 0 0 []),(1,.ptr 4 0 0 []),(5,.int (s.k:Nat))],hpA p z s.q⟩) (fun s=>30-s.k) ⟨0,Nat.zero_le _,⟨(some ⟨aw,ak,ai,am⟩),none,rm,held,f,l,b,hh⟩,rfl,rfl,hq⟩ [0,1,2,3,4] ?_ ?_
     ·exact zn
     ·intro s
      clear hq
      obtain ⟨k,hk,⟨W',R',rm,held,f,l,b,hh⟩,hW',hR',hq⟩:=s
      dsimp only at hW' hR'
      subst hW'
      rcases R' with _|⟨bw,bk,bi,bm⟩
      case' some=>exact Bool.noConfusion (show true=false from hR')
      case none=>
        have hlen:=hq.len
        have hky:=hq.ky (by omega)
        have hf0:=hq.hf
        have hp1:yj z.toNat z.toNat z.toNat l b hh∧wOK none:=⟨hq.hr,hky.2.1⟩
        have hp2:(false=true→ze1 0 [] [] 0)∧(f= -1∨0≤f)∧held.length<9223372036854775808:=⟨fun h=>Bool.noConfusion h,hf0,by have:=hlen.2.2.2;simp only at this;omega⟩
        have d0:(decide ((0:Int)=0)&&(decide (([]:List UInt8)= [])&&true))=true:=by rw [decide_eq_true rfl,decide_eq_true rfl];rfl
        by_cases hk30:k<30
        ·by_cases hfm:f= -1
         ·subst hfm
          have hrs:=hq.hs rfl
          have hc:=zvb hrs
          dsimp only at hc
          rcases zvz (held:=held) with ⟨ek,ed,e⟩|e|⟨aa,ha0,e⟩
          ·conv=>whnf
           refine za ?_
           rw [hc]
           refine zad ?_
           rw [e]
           conv=>whnf
           refine yi fun l' hl'=>?_
           refine za ?_
           refine zad ?_
           have e2:nxR (rK false 0 [] [] 0) held=_:=e
           rw [e2]
           have deq:(decide (ek=ek)&&(decide (ed=ed)&&true))=true:=by rw [decide_eq_true rfl,decide_eq_true rfl];rfl
           have hk5:=zhr e
           repeat ((conv=>whnf);first|refine zu ?_|refine zg ?_|refine zh ?_|refine zb ?_|refine zr (by first|(rw [deq];rfl)) ?_|refine zj (by first|(rw [deq];rfl)) ?_|refine zk (by first|(rw [deq];rfl)) ?_)
           conv=>whnf
           refine ⟨⟨k+1,by omega,⟨(some ⟨aw,ak,ai,am⟩),none,rm,hR held, -1,l',(b+(5+hN held)).tmod (z.toNat:Nat),hh-(5+hN held)⟩,rfl,rfl,zje hq hk5 hl'⟩,[0,1,2,3,4],by show 30-(k+1)<30-k;omega,?_⟩
           exact zn
          ·conv=>whnf
           refine za ?_
           rw [hc]
           refine zad ?_
           rw [e]
           conv=>whnf
           refine za ?_
           refine zad ?_
           have e2:nxR (rK false 0 [] [] 0) held=_:=e
           rw [e2]
           repeat ((conv=>whnf);first|refine zu ?_|refine zg ?_|refine zh ?_|refine zb ?_|refine zr (by first|(rw [d0];rfl)) ?_|refine zj (by first|(rw [d0];rfl)) ?_|refine zk (by first|(rw [d0];rfl)) ?_)
           conv=>whnf
           refine yr (h ⟨(some ⟨aw,ak,ai,am⟩),none,rm,held, -1,l,b,hh⟩ rfl rfl (hq.mono (by omega))) ?_
           exact zn
          ·conv=>whnf
           refine za ?_
           rw [hc]
           refine zad ?_
           rw [e]
           conv=>whnf
           refine za ?_
           refine zad ?_
           have e2:nxR (rK false 0 [] [] 0) held=_:=e
           rw [e2]
           have daa:decide (aa=aa)=true:=decide_eq_true rfl
           repeat ((conv=>whnf);first|refine zu ?_|refine zg ?_|refine zh ?_|refine zb ?_|refine zr (by first|(rw [d0];rfl)|(rw [daa];rfl)) ?_|refine zj (by first|(rw [d0];rfl)|(rw [daa];rfl)) ?_|refine zk (by first|(rw [d0];rfl)|(rw [daa];rfl)) ?_)
           conv=>whnf
           refine yr (h ⟨(some ⟨aw,ak,ai,am⟩),none,rm,held,aa,l,b,hh⟩ rfl rfl ((zjb hq ha0).mono (by omega))) ?_
           exact zn
         ·have dfm:=decide_eq_false hfm
          have daa:decide (f=f)=true:=decide_eq_true rfl
          conv=>whnf
          repeat ((conv=>whnf);first|refine zu ?_|refine zg ?_|refine zh ?_|refine zb ?_|refine zr (by first|exact dfm|(rw [dfm];rfl)|(rw [d0];rfl)|(rw [daa];rfl)) ?_|refine zj (by first|exact dfm|(rw [dfm];rfl)|(rw [d0];rfl)|(rw [daa];rfl)) ?_|refine zk (by first|exact dfm|(rw [dfm];rfl)|(rw [d0];rfl)|(rw [daa];rfl)) ?_)
          conv=>whnf
          refine yr (h ⟨(some ⟨aw,ak,ai,am⟩),none,rm,held,f,l,b,hh⟩ rfl rfl (hq.mono (by omega))) ?_
          exact zn
        ·conv=>whnf
         refine za ?_
         refine yr (h ⟨(some ⟨aw,ak,ai,am⟩),none,rm,held,f,l,b,hh⟩ rfl rfl (hq.mono (by omega))) ?_
         exact zn
    ·dsimp only [hpA,stH,xv,rBz,sN]
     conv=>whnf
     refine za ?_
     refine zt (DS p z ⟨(some ⟨aw,ak,ai,am⟩),(some ⟨bw,bk,bi,bm⟩),rm,held,f,l,b,hh⟩ B) (fun s=>⟨[(0,.ptr 0 0 0 []),(1,.ptr 5 0 0 []),(5,.int (s.k:Nat))],hpA p z s.q⟩) (fun s=>30-s.k) ⟨0,Nat.zero_le _,⟨(some ⟨aw,ak,ai,am⟩),(some ⟨bw,bk,bi,bm⟩),rm,held,f,l,b,hh⟩,rfl,rfl,hq⟩ [0,1,2,3,4,5] ?_ ?_
     ·exact zn
     ·intro s
      clear hq
      obtain ⟨k,hk,⟨W',R',rm,held,f,l,b,hh⟩,hW',hR',hq⟩:=s
      dsimp only at hW' hR'
      subst hW'
      rcases R' with _|⟨bw,bk,bi,bm⟩
      case' none=>exact Bool.noConfusion (show false=true from hR')
      case some=>
        have hlen:=hq.len
        have hky:=hq.ky (by omega)
        have hf0:=hq.hf
        have hp1:yj z.toNat z.toNat z.toNat l b hh∧wOK (some ⟨bw,bk,bi,bm⟩):=⟨hq.hr,hky.2.1⟩
        have hp2:(true=true→ze1 bw bk bi rm)∧(f= -1∨0≤f)∧held.length<9223372036854775808:=⟨fun _=>hky.2.2 _ rfl,hf0,by have:=hlen.2.2.2;simp only at this;omega⟩
        have d0:(decide ((0:Int)=0)&&(decide (([]:List UInt8)= [])&&true))=true:=by rw [decide_eq_true rfl,decide_eq_true rfl];rfl
        by_cases hk30:k<30
        ·by_cases hfm:f= -1
         ·subst hfm
          have hrs:=hq.hs rfl
          have hc:=zvb hrs
          dsimp only at hc
          have hrm:rm=bm:=hq.he rfl _ rfl
          subst hrm
          rcases zw6 (k:=⟨bw,bk,bi,rm⟩) (held:=held) with ⟨ek,ed,e⟩|⟨ek,ed,e⟩|e|⟨aa,ha0,e⟩|⟨aa,ha0,e⟩
          ·conv=>whnf
           refine za ?_
           rw [hc]
           refine zad ?_
           rw [e]
           conv=>whnf
           refine yi fun l' hl'=>?_
           refine za ?_
           refine zad ?_
           have e2:nxR (rK true bw bk bi rm) held=_:=e
           rw [e2]
           have deq:(decide (ek=ek)&&(decide (ed=ed)&&true))=true:=by rw [decide_eq_true rfl,decide_eq_true rfl];rfl
           have hk5:=zhr e
           repeat ((conv=>whnf);first|refine zu ?_|refine zg ?_|refine zh ?_|refine zb ?_|refine zr (by first|(rw [deq];rfl)) ?_|refine zj (by first|(rw [deq];rfl)) ?_|refine zk (by first|(rw [deq];rfl)) ?_)
           conv=>whnf
           refine ⟨⟨k+1,by omega,⟨(some ⟨aw,ak,ai,am⟩),(some ⟨bw,bk,bi,rm⟩),rm,hR held, -1,l',(b+(5+hN held)).tmod (z.toNat:Nat),hh-(5+hN held)⟩,rfl,rfl,zje hq hk5 hl'⟩,[0,1,2,3,4,5],by show 30-(k+1)<30-k;omega,?_⟩
           exact zn
          ·conv=>whnf
           refine za ?_
           rw [hc]
           refine zad ?_
           rw [e]
           conv=>whnf
           refine yi fun l' hl'=>?_
           refine za ?_
           refine zad ?_
           have e2:nxR (rK true bw bk bi rm) held=_:=e
           rw [e2]
           have deq:(decide (ek=ek)&&(decide (ed=ed)&&true))=true:=by rw [decide_eq_true rfl,decide_eq_true rfl];rfl
           have hk5:=zhr e
           repeat ((conv=>whnf);first|refine zu ?_|refine zg ?_|refine zh ?_|refine zb ?_|refine zr (by first|(rw [deq];rfl)) ?_|refine zj (by first|(rw [deq];rfl)) ?_|refine zk (by first|(rw [deq];rfl)) ?_)
           conv=>whnf
           refine ⟨⟨k+1,by omega,⟨(some ⟨aw,ak,ai,am⟩),(some ⟨bw,bk,bi,rm+1⟩),rm+1,hR held, -1,l',(b+(5+hN held)).tmod (z.toNat:Nat),hh-(5+hN held)⟩,rfl,rfl,zrc hq hk5 hl'⟩,[0,1,2,3,4,5],by show 30-(k+1)<30-k;omega,?_⟩
           exact zn
          ·conv=>whnf
           refine za ?_
           rw [hc]
           refine zad ?_
           rw [e]
           conv=>whnf
           refine za ?_
           refine zad ?_
           have e2:nxR (rK true bw bk bi rm) held=_:=e
           rw [e2]
           repeat ((conv=>whnf);first|refine zu ?_|refine zg ?_|refine zh ?_|refine zb ?_|refine zr (by first|(rw [d0];rfl)) ?_|refine zj (by first|(rw [d0];rfl)) ?_|refine zk (by first|(rw [d0];rfl)) ?_)
           conv=>whnf
           refine yr (h ⟨(some ⟨aw,ak,ai,am⟩),(some ⟨bw,bk,bi,rm⟩),rm,held, -1,l,b,hh⟩ rfl rfl (hq.mono (by omega))) ?_
           exact zn
          ·conv=>whnf
           refine za ?_
           rw [hc]
           refine zad ?_
           rw [e]
           conv=>whnf
           refine za ?_
           refine zad ?_
           have e2:nxR (rK true bw bk bi rm) held=_:=e
           rw [e2]
           have daa:decide (aa=aa)=true:=decide_eq_true rfl
           repeat ((conv=>whnf);first|refine zu ?_|refine zg ?_|refine zh ?_|refine zb ?_|refine zr (by first|(rw [d0];rfl)|(rw [daa];rfl)) ?_|refine zj (by first|(rw [d0];rfl)|(rw [daa];rfl)) ?_|refine zk (by first|(rw [d0];rfl)|(rw [daa];rfl)) ?_)
           conv=>whnf
           refine yr (h ⟨(some ⟨aw,ak,ai,am⟩),(some ⟨bw,bk,bi,rm⟩),rm,held,aa,l,b,hh⟩ rfl rfl ((zjb hq ha0).mono (by omega))) ?_
           exact zn
          ·conv=>whnf
           refine za ?_
           rw [hc]
           refine zad ?_
           rw [e]
           conv=>whnf
           refine yi fun l' hl'=>?_
           refine za ?_
           refine zad ?_
           have e2:nxR (rK true bw bk bi rm) held=_:=e
           rw [e2]
           have daa:decide (aa=aa)=true:=decide_eq_true rfl
           repeat ((conv=>whnf);first|refine zu ?_|refine zg ?_|refine zh ?_|refine zb ?_|refine zr (by first|(rw [d0];rfl)|(rw [daa];rfl)) ?_|refine zj (by first|(rw [d0];rfl)|(rw [daa];rfl)) ?_|refine zk (by first|(rw [d0];rfl)|(rw [daa];rfl)) ?_)
           conv=>whnf
           refine yr (h ⟨(some ⟨aw,ak,ai,am⟩),(some ⟨bw,bk,bi,rm+1⟩),rm,held,aa,l',b,hh⟩ rfl rfl ((z4j hq ha0 hl').mono (by omega))) ?_
           exact zn
         ·have dfm:=decide_eq_false hfm
          have daa:decide (f=f)=true:=decide_eq_true rfl
          conv=>whnf
          repeat ((conv=>whnf);first|refine zu ?_|refine zg ?_|refine zh ?_|refine zb ?_|refine zr (by first|exact dfm|(rw [dfm];rfl)|(rw [d0];rfl)|(rw [daa];rfl)) ?_|refine zj (by first|exact dfm|(rw [dfm];rfl)|(rw [d0];rfl)|(rw [daa];rfl)) ?_|refine zk (by first|exact dfm|(rw [dfm];rfl)|(rw [d0];rfl)|(rw [daa];rfl)) ?_)
          conv=>whnf
          refine yr (h ⟨(some ⟨aw,ak,ai,am⟩),(some ⟨bw,bk,bi,bm⟩),rm,held,f,l,b,hh⟩ rfl rfl (hq.mono (by omega))) ?_
          exact zn
        ·conv=>whnf
         refine za ?_
         refine yr (h ⟨(some ⟨aw,ak,ai,am⟩),(some ⟨bw,bk,bi,bm⟩),rm,held,f,l,b,hh⟩ rfl rfl (hq.mono (by omega))) ?_
         exact zn
end Go.Sym.Z

namespace Go.Sym.Z
open Go Go.Proofs.Tryz Go.Sym.Lp Go.Sym.Ring Go.Sym.Cha Go.Sym.Sha Go.Sym.Hk Go.Sym.Gcm
set_option maxRecDepth 100000
def pl8:List (Nat×List PStep):= [(16,[⟨0,[]⟩,⟨1,[0]⟩,⟨2,[0]⟩,⟨4,[0,1,2]⟩,⟨5,[0,1,2,4]⟩,⟨6,[0,1,2,4]⟩,⟨3,[4,5,6]⟩,⟨7,[]⟩,⟨8,[]⟩]),(20,[⟨0,[]⟩,⟨3,[0]⟩,⟨4,[0,3]⟩,⟨5,[0,3]⟩,⟨6,[0,3,4,5]⟩,⟨7,[0,3,4,5]⟩,⟨1,[3,4,5,6,7]⟩,⟨2,[3,4,5,6,7]⟩,⟨8,[2]⟩,⟨9,[]⟩,⟨10,[]⟩,⟨11,[]⟩,⟨12,[]⟩,⟨13,[]⟩,⟨14,[]⟩,⟨15,[]⟩,⟨16,[]⟩,⟨17,[]⟩,⟨18,[]⟩,⟨19,[]⟩]),(24,[⟨0,[]⟩,⟨3,[0]⟩,⟨4,[0,3]⟩,⟨5,[0,3]⟩,⟨6,[0,3,4,5]⟩,⟨7,[0,3,4,5]⟩,⟨1,[3,4,5,6,7]⟩,⟨2,[3,4,5,6,7]⟩,⟨8,[2]⟩,⟨9,[]⟩])]
def zqq:List (Nat×TyI):= [(3,ty3),(4,ty4),(5,ty5),(9,ty9),(48,zd6),(51,zeb),(113,xw),(99,xj),(103,zgc),(68,zmk),(70,zmn),(104,zgh),(97,zqc),(56,zpa),(121,zf8),(93,zmm),(43,zlv),(78,zs0),(27,zuk),(63,zo5),(62,zy3)]
theorem ybi: ∀t i,y8 zqq t=some i→yt prog t i:=(zc zbg (zc zbj (zc zbc (zc zbf (zc zaq (zc zap (zc zai (zc za6 (zc ze7 (zc zhz (zc zhv (zc zfh (zc zj3 (zc zjx (zc ze3 (zc zhy (zc zf5 (zc zui (zc ztp (zc ty63_ok (zc ybz x1)))))))))))))))))))))
def zeu:List (Nat×Spec):= [(29,z02),(12,z10),(32,zsi),(33,ztf),(34,zus),(30,zkj),(31,zmu),(39,zfx),(28,zmx),(38,drS),(11,ztq),(17,zm6),(19,zka),(21,zt9),(15,ztm),(25,zs4),(37,zsw)]
theorem z28: ∀f S,y8 zeu f=some S→zp prog f S:=zd z4m (zd z4u (zd z00 (zd z0x (zd zz9 (zd z2c (zd z6c (zd yb3 (zd z9g (zd z36 (zd ybr (zd z4v (zd z2m (zd ybj (zd yaj (zd yay (zd yb5 zi))))))))))))))))
noncomputable def z74:Code:=cin (cin (cs2 (cs1 (cs2 (cs2 (cs2 (cs2 (cs2 (zqn f8)))))))))
def tmA (z:Int) (a:Option Addr) (n c i:Nat) (q:AQ):List (Nat×SV):= [(1,.int z),(2,.xsl a n c),(7,.ptr 0 0 0 []),(9,.ptr (sN q.W q.R) 0 0 []),(11,.int (i:Nat))]
theorem zs2 {p z:Int} {W R:Option Kq} {rm:Int} {held:List UInt8} {f:Int} {l:List UInt8} {b h:Int} {B:Nat} (g:AI p z ⟨W,R,rm,held,f,l,b,h⟩ B) {s l':List UInt8} {k:Int} (hk:k=min (s.length:Int) ((z.toNat:Nat)-h))
    (hl:l'.length=z.toNat∧zl l' b.toNat (h+k).toNat=zl l b.toNat h.toNat++s.take k.toNat):AI p z ⟨W,R,rm,held++s.take k.toNat,f,l',b,h+k⟩ B:=by
  have hr:=g.hr
  have hh:h=(held.length:Int):=g.hh
  simp only at hr
  unfold yj at hr
  have hlen:((s.take k.toNat).length:Int)=k:=by rw [List.length_take];omega
  refine ⟨g.hp,g.hz,g.hW,g.hR,g.hm,g.he,g.hf,by have h1:=hl.1;have hz:=g.hz;unfold yj;dsimp only;refine ⟨rfl,rfl,h1,?_,?_,?_,?_,?_,?_⟩<;>omega,by simp only;rw [List.length_append];omega,fun e=>?_⟩
  have:=zw4 (g.hs e) (s:=s) (l':=l') (by simp only;rw [←hk];exact hl)
  simp only at this
  rw [←hk] at this
  exact this
theorem zsp {p z:Int} {q:AQ} {B:Nat} {args:List SV} {hp:List Blk} {K:SV→List Blk→Prop} (hq:AI p z q B) (h1:args= [.ptr 0 0 0 [],.ptr (sN q.W q.R) 0 0 []]) (h2:hp=hpA p z q) (hB:B≤10000) (h: ∀q',q'.W=q.W→q'.R.isSome=q.R.isSome→AI p z q' (B+31)→K (.bool true) (hpA p z q')):drS args hp K:=⟨p,z,q,B,h1,h2,hq,hB,h⟩
theorem AI.dH {p z:Int} {q:AQ} {B:Nat} (g:AI p z q B):decide (q.h=(q.held.length:Int))=true:=decide_eq_true g.hh
theorem AI.dG {p z:Int} {q:AQ} {B:Nat} (g:AI p z q B):decide (q.h>z)=false:=decide_eq_false (by have:=g.len;omega)
theorem AI.dS {p z:Int} {q:AQ} {B:Nat} (_:AI p z q B):decide (z7b q.W=z7b q.W)=true:=decide_eq_true rfl
theorem bq1 {x:Bool} (h:x=true):(!x)=false:=by rw [h];rfl
theorem bq2 {x:Bool} (h:x=true):(x==true)=true:=by rw [h];rfl
theorem bq3 {x:Bool} (h:x=true):(x==false)=false:=by rw [h];rfl
theorem bq4 {x:Bool} (h:x=true):((!x)==true)=false:=by rw [h];rfl
theorem bq5 {x:Bool} (h:x=true):((!x)==false)=true:=by rw [h];rfl
def glI:Option Kq→Option Kq→List Nat
  |none,none=> [0,1,2,3]
  |some _,some _=> [0,1,2,3,4,5]
  |_,_=> [0,1,2,3,4]
def glR:Option Kq→Option Kq→List Nat
  |none,none=> [0,5,1,2,3]
  |none,some _=> [0,6,2,3,4]
  |some _,none=> [0,1,6,2,3,4]
  |some _,some _=> [0,1,7,3,4,5]
def glW:Option Kq→Option Kq→List Nat
  |none,none=> [0,5,1,2,3]
  |none,some _=> [0,6,1,2,3,4]
  |some _,none=> [0,6,2,3,4]
  |some _,some _=> [0,7,2,3,4,5]
theorem znj {p z:Int} {q:AQ} {B:Nat} (g:AI p z q B) (m:Nat):zgg z q.held.length m=min (m:Int) ((z.toNat:Nat)-q.h):=by
  have h1:=g.hz
  have h2:=g.hh
  unfold zgg
  rw [if_pos (by omega),h2]
  congr 2
  omega
theorem z85 {p z:Int} {W R:Option Kq} {rm:Int} {held:List UInt8} {f:Int} {l:List UInt8} {b h:Int} {B:Nat} (g:AI p z ⟨W,R,rm,held,f,l,b,h⟩ B) {w:Int} (hw:su w) (t:List UInt8):AI p z ⟨W,some ⟨w,kyF w t,ivF w t,0⟩,0,held,f,l,b,h⟩ B:=
  ⟨g.hp,g.hz,g.hW,fun k hk=>by cases hk;exact ⟨hw,z0f _ _,z1f _ _,Int.le_refl _,by simp only;omega⟩,⟨Int.le_refl _,by simp only;omega⟩,fun _ k hk=>by cases hk;rfl,g.hf,g.hr,g.hh,g.hs⟩
theorem z3l {p z:Int} {W R:Option Kq} {rm:Int} {held:List UInt8} {f:Int} {l:List UInt8} {b h:Int} {B:Nat} (g:AI p z ⟨W,R,rm,held,f,l,b,h⟩ B) {w:Int} (hw:su w) (t:List UInt8):AI p z ⟨some ⟨w,kyF w t,ivF w t,0⟩,R,rm,held,f,l,b,h⟩ B:=
  ⟨g.hp,g.hz,fun k hk=>by cases hk;exact ⟨hw,z0f _ _,z1f _ _,Int.le_refl _,by simp only;omega⟩,g.hR,g.hm,g.he,g.hf,g.hr,g.hh,g.hs⟩
theorem z38 {p z:Int} {R:Option Kq} {w:Int} {key iv:List UInt8} {m rm:Int} {held:List UInt8} {f:Int} {l:List UInt8} {b h:Int} {B:Nat} (g:AI p z ⟨some ⟨w,key,iv,m⟩,R,rm,held,f,l,b,h⟩ B):AI p z ⟨some ⟨w,key,iv,m+1⟩,R,rm,held,f,l,b,h⟩ (B+1):=
  have k:=z4r g.hW
  have g:=g.mono (Nat.le_succ B)
  ⟨g.hp,g.hz,k,g.hR,g.hm,g.he,g.hf,g.hr,g.hh,g.hs⟩
end Go.Sym.Z

namespace Go.Sym.Z
open Go Go.Proofs.Tryz Go.Sym.Lp Go.Sym.Ring Go.Sym.Cha Go.Sym.Sha Go.Sym.Hk Go.Sym.Gcm
set_option maxRecDepth 100000
attribute [local irreducible] x3 exF kyF ivF y6 xq y3 inL ncF lnz iA hA hN hK za7 zcl hO hP hR hT iK hdF zl nxM nxR yj zgg drS
set_option maxHeartbeats 16000000 in
theorem yff (WW:World) (rows:List (List At)) (p z:Int) (a:Option Addr) (n c i:Nat) (hi:i<40) (hn:i<n) (W R:Option Kq) (rm:Int) (held:List UInt8) (f:Int) (l:List UInt8) (bb hh:Int) (hq:AI p z ⟨W,R,rm,held,f,l,bb,hh⟩ (32*i)) (kind:Int) (s:List UInt8) (u:Int) (t:List UInt8) (x:Int) (b:Bool) (hk5:kind<5) (hrw:rows[i]?=some [.int kind,.str s,.int u,.str t,.int x,.bool b]) (hs:s.length≤140737488351232) (ht:t.length≤140737488351232) (N:St→Prop) (X:Nat→St→Prop) (RR:St→Prop)
    (HN: ∀q,AI p z q (32*(i+1))→ ∀gl st,zdp 0 gl st.tm st.hp (tmA z a n c (i+1) q) (hpA p z q) True→N st):
    vc (ztd f8.ntmps zqq zeu WW [⟨63,a.getD ⟨0,0,none⟩,6,false,rows⟩]) pl8 0 z74 (tmA z a n c i ⟨W,R,rm,held,f,l,bb,hh⟩) (hpA p z ⟨W,R,rm,held,f,l,bb,hh⟩) N X RR:=by
  have hle:=hq.len
  have hky:=hq.ky (by omega)
  have hp0:=hq.hp
  have hz0:=hq.hz
  dsimp only at hle hky
  have hI:((i:Nat):Int).toNat=i:=Int.toNat_natCast _
  have hext:zeq [⟨63,a.getD ⟨0,0,none⟩,6,false,rows⟩] ((a.getD ⟨0,0,none⟩).add (((i:Nat):Int).toNat*zo5.sz)) 63 (.agg [.int kind,.str s,.int u,.str t,.int x,.bool b]):=⟨_,.head _,i,_,rfl,by rw [hI];rfl,hrw,rfl⟩
  obtain ⟨gl,hgl⟩: ∃gl,gl=glI W R:=⟨_,rfl⟩
  have hpN:=znj hq (s).length
  dsimp only at hpN
  have hpp:yj z.toNat z.toNat z.toNat l bb hh∧(s).length≤4611686018427387904:=⟨hq.hr,by omega⟩
  have hpc:0≤z∧z≤262144∧(0<z→(held.length:Int)≤z)∧held.length+(s).length<9223372036854775808:=⟨by omega,hz0.2,fun _=>hle.2.2.1,by omega⟩
  obtain ⟨km,hkm⟩: ∃km,km=min (((s).length:Nat):Int) ((z.toNat:Nat)-hh):=⟨_,rfl⟩
  have dkm:decide (km=km)=true:=decide_eq_true rfl
  rw [←hkm] at hpN
  rcases W with _|⟨aw,ak,ai,am⟩<;>rcases R with _|⟨bw,bk,bi,bm⟩
  all_goals (
    dsimp only [hpA,stH,xv,rBz]
    refine za ?_
    refine zmh _ hext ?_
    refine za ?_
    refine yi fun l1 hl1=>?_
    rw [←hkm] at hl1
    rw [←hkm]
    have hq1:=zs2 hq hkm hl1
    refine za ?_
    rw [hpN]
    repeat ((conv=>whnf);first|refine zu ?_|refine zg ?_|refine zh ?_|refine zb ?_|refine zr (by first|exact dkm|(rw [dkm];rfl)) ?_|refine zj (by first|exact dkm|(rw [dkm];rfl)) ?_|refine zk (by first|exact dkm|(rw [dkm];rfl)) ?_)
    conv=>whnf
    have hq1:=hq1.mono (Nat.le_succ _)
    have dH:=hq1.dH
    have dG:=hq1.dG
    have dS:=hq1.dS
    dsimp only at dH dG dS
    by_cases hev:zae BinOp.and kind 1=0
    ·have dev:=decide_eq_true hev
     repeat ((conv=>whnf);first|refine zu ?_|refine zg ?_|refine zh ?_|refine zb ?_|refine zr (by first|exact dev|(rw [dev];rfl)|exact dH|(rw [dH];rfl)) ?_|refine zj (by first|exact dev|(rw [dev];rfl)|exact dH|(rw [dH];rfl)) ?_|refine zk (by first|exact dev|(rw [dev];rfl)|exact dH|(rw [dH];rfl)) ?_)
     conv=>whnf
     refine zsp hq1 rfl rfl (by omega) ?_
     intro q2 hW2 hR2 hq2
     obtain ⟨W2,R2,rm2,held2,f2,l2,b2,h2⟩:=q2
     dsimp only at hW2 hR2
     subst hW2
     clear dH dG dS
     have dH:=hq2.dH
     have dG:=hq2.dG
     have dS:=hq2.dS
     dsimp only at dH dG dS
     rcases R2 with _|⟨cw,ck,ci,cm⟩
     all_goals first|exact Bool.noConfusion (show false=true from hR2)|exact Bool.noConfusion (show true=false from hR2)|(
       dsimp only [hpA,stH,xv,rBz]
       repeat ((conv=>whnf);first|refine zu ?_|refine zg ?_|refine zh ?_|refine zb ?_|refine zr (by first|exact dH|(rw [dH];rfl)|exact dG|(rw [dG];rfl)|exact dS|exact bq1 dS|exact bq2 dS|exact bq3 dS|exact bq4 dS|exact bq5 dS) ?_|refine zj (by first|exact dH|(rw [dH];rfl)|exact dG|(rw [dG];rfl)|exact dS|exact bq1 dS|exact bq2 dS|exact bq3 dS|exact bq4 dS|exact bq5 dS) ?_|refine zk (by first|exact dH|(rw [dH];rfl)|exact dG|(rw [dG];rfl)|exact dS|exact bq1 dS|exact bq2 dS|exact bq3 dS|exact bq4 dS|exact bq5 dS) ?_)
       conv=>whnf
       refine HN _ (hq2.mono (by omega)) gl _ ?_
       subst hgl
       exact zn)
    ·have dev:=decide_eq_false hev
     repeat ((conv=>whnf);first|refine zu ?_|refine zg ?_|refine zh ?_|refine zb ?_|refine zr (by first|exact dev|(rw [dev];rfl)|exact dH|(rw [dH];rfl)|exact dG|(rw [dG];rfl)|exact dS|exact bq1 dS|exact bq2 dS|exact bq3 dS|exact bq4 dS|exact bq5 dS) ?_|refine zj (by first|exact dev|(rw [dev];rfl)|exact dH|(rw [dH];rfl)|exact dG|(rw [dG];rfl)|exact dS|exact bq1 dS|exact bq2 dS|exact bq3 dS|exact bq4 dS|exact bq5 dS) ?_|refine zk (by first|exact dev|(rw [dev];rfl)|exact dH|(rw [dH];rfl)|exact dG|(rw [dG];rfl)|exact dS|exact bq1 dS|exact bq2 dS|exact bq3 dS|exact bq4 dS|exact bq5 dS) ?_)
     conv=>whnf
     refine HN _ (hq1.mono (by omega)) gl _ ?_
     subst hgl
     exact zn)
end Go.Sym.Z

namespace Go.Sym.Z
open Go Go.Proofs.Tryz Go.Sym.Lp Go.Sym.Ring Go.Sym.Cha Go.Sym.Sha Go.Sym.Hk Go.Sym.Gcm
set_option maxRecDepth 100000
attribute [local irreducible] x3 exF kyF ivF y6 xq y3 inL ncF lnz iA hA hN hK za7 zcl hO hP hR hT iK hdF zl nxM nxR yj zgg drS
set_option maxHeartbeats 16000000 in
theorem yd4 (WW:World) (rows:List (List At)) (p z:Int) (a:Option Addr) (n c i:Nat) (hi:i<40) (hn:i<n) (W R:Option Kq) (rm:Int) (held:List UInt8) (f:Int) (l:List UInt8) (bb hh:Int) (hq:AI p z ⟨W,R,rm,held,f,l,bb,hh⟩ (32*i)) (kind:Int) (s:List UInt8) (u:Int) (t:List UInt8) (x:Int) (b:Bool) (hk5:kind=5) (hrw:rows[i]?=some [.int kind,.str s,.int u,.str t,.int x,.bool b]) (hs:s.length≤140737488351232) (ht:t.length≤140737488351232) (N:St→Prop) (X:Nat→St→Prop) (RR:St→Prop)
    (HN: ∀q,AI p z q (32*(i+1))→ ∀gl st,zdp 0 gl st.tm st.hp (tmA z a n c (i+1) q) (hpA p z q) True→N st):
    vc (ztd f8.ntmps zqq zeu WW [⟨63,a.getD ⟨0,0,none⟩,6,false,rows⟩]) pl8 0 z74 (tmA z a n c i ⟨W,R,rm,held,f,l,bb,hh⟩) (hpA p z ⟨W,R,rm,held,f,l,bb,hh⟩) N X RR:=by
  have hle:=hq.len
  have hky:=hq.ky (by omega)
  have hp0:=hq.hp
  have hz0:=hq.hz
  dsimp only at hle hky
  have hI:((i:Nat):Int).toNat=i:=Int.toNat_natCast _
  have hext:zeq [⟨63,a.getD ⟨0,0,none⟩,6,false,rows⟩] ((a.getD ⟨0,0,none⟩).add (((i:Nat):Int).toNat*zo5.sz)) 63 (.agg [.int kind,.str s,.int u,.str t,.int x,.bool b]):=⟨_,.head _,i,_,rfl,by rw [hI];rfl,hrw,rfl⟩
  by_cases hw:su u
  ·have d1:decide (su u)=true:=decide_eq_true hw
   have hq1:=(z85 hq hw t).mono (Nat.le_succ _)
   obtain ⟨gl,hgl⟩: ∃gl,gl=glR W R:=⟨_,rfl⟩
   rcases W with _|⟨aw,ak,ai,am⟩<;>rcases R with _|⟨bw,bk,bi,bm⟩
   all_goals (
     dsimp only [hpA,stH,xv,rBz]
     refine za ?_
     refine zmh _ hext ?_
     repeat ((conv=>whnf);first|refine zu ?_|refine zg ?_|refine zh ?_|refine zb ?_|refine zr (by first|exact d1|(rw [d1];rfl)) ?_|refine zj (by first|exact d1|(rw [d1];rfl)) ?_|refine zk (by first|exact d1|(rw [d1];rfl)) ?_)
     conv=>whnf
     have dH:=hq1.dH
     have dG:=hq1.dG
     have dS:=hq1.dS
     dsimp only at dH dG dS
     by_cases hev:zae BinOp.and kind 1=0
     ·have dev:=decide_eq_true hev
      repeat ((conv=>whnf);first|refine zu ?_|refine zg ?_|refine zh ?_|refine zb ?_|refine zr (by first|exact dev|(rw [dev];rfl)|exact dH|(rw [dH];rfl)) ?_|refine zj (by first|exact dev|(rw [dev];rfl)|exact dH|(rw [dH];rfl)) ?_|refine zk (by first|exact dev|(rw [dev];rfl)|exact dH|(rw [dH];rfl)) ?_)
      conv=>whnf
      refine zsp hq1 rfl rfl (by omega) ?_
      intro q2 hW2 hR2 hq2
      obtain ⟨W2,R2,rm2,held2,f2,l2,b2,h2⟩:=q2
      dsimp only at hW2 hR2
      subst hW2
      clear dH dG dS
      have dH:=hq2.dH
      have dG:=hq2.dG
      have dS:=hq2.dS
      dsimp only at dH dG dS
      rcases R2 with _|⟨cw,ck,ci,cm⟩
      all_goals first|exact Bool.noConfusion (show false=true from hR2)|exact Bool.noConfusion (show true=false from hR2)|(
        dsimp only [hpA,stH,xv,rBz]
        repeat ((conv=>whnf);first|refine zu ?_|refine zg ?_|refine zh ?_|refine zb ?_|refine zr (by first|exact dH|(rw [dH];rfl)|exact dG|(rw [dG];rfl)|exact dS|exact bq1 dS|exact bq2 dS|exact bq3 dS|exact bq4 dS|exact bq5 dS) ?_|refine zj (by first|exact dH|(rw [dH];rfl)|exact dG|(rw [dG];rfl)|exact dS|exact bq1 dS|exact bq2 dS|exact bq3 dS|exact bq4 dS|exact bq5 dS) ?_|refine zk (by first|exact dH|(rw [dH];rfl)|exact dG|(rw [dG];rfl)|exact dS|exact bq1 dS|exact bq2 dS|exact bq3 dS|exact bq4 dS|exact bq5 dS) ?_)
        conv=>whnf
        refine HN _ (hq2.mono (by omega)) gl _ ?_
        subst hgl
        exact zn)
     ·have dev:=decide_eq_false hev
      repeat ((conv=>whnf);first|refine zu ?_|refine zg ?_|refine zh ?_|refine zb ?_|refine zr (by first|exact dev|(rw [dev];rfl)|exact dH|(rw [dH];rfl)|exact dG|(rw [dG];rfl)|exact dS|exact bq1 dS|exact bq2 dS|exact bq3 dS|exact bq4 dS|exact bq5 dS) ?_|refine zj (by first|exact dev|(rw [dev];rfl)|exact dH|(rw [dH];rfl)|exact dG|(rw [dG];rfl)|exact dS|exact bq1 dS|exact bq2 dS|exact bq3 dS|exact bq4 dS|exact bq5 dS) ?_|refine zk (by first|exact dev|(rw [dev];rfl)|exact dH|(rw [dH];rfl)|exact dG|(rw [dG];rfl)|exact dS|exact bq1 dS|exact bq2 dS|exact bq3 dS|exact bq4 dS|exact bq5 dS) ?_)
      conv=>whnf
      refine HN _ (hq1.mono (by omega)) gl _ ?_
      subst hgl
      exact zn)
  ·have d1:decide (su u)=false:=decide_eq_false hw
   have hq1:=hq.mono (Nat.le_succ _)
   obtain ⟨gl,hgl⟩: ∃gl,gl=glI W R:=⟨_,rfl⟩
   rcases W with _|⟨aw,ak,ai,am⟩<;>rcases R with _|⟨bw,bk,bi,bm⟩
   all_goals (
     dsimp only [hpA,stH,xv,rBz]
     refine za ?_
     refine zmh _ hext ?_
     repeat ((conv=>whnf);first|refine zu ?_|refine zg ?_|refine zh ?_|refine zb ?_|refine zr (by first|exact d1|(rw [d1];rfl)) ?_|refine zj (by first|exact d1|(rw [d1];rfl)) ?_|refine zk (by first|exact d1|(rw [d1];rfl)) ?_)
     conv=>whnf
     have dH:=hq1.dH
     have dG:=hq1.dG
     have dS:=hq1.dS
     dsimp only at dH dG dS
     by_cases hev:zae BinOp.and kind 1=0
     ·have dev:=decide_eq_true hev
      repeat ((conv=>whnf);first|refine zu ?_|refine zg ?_|refine zh ?_|refine zb ?_|refine zr (by first|exact dev|(rw [dev];rfl)|exact dH|(rw [dH];rfl)) ?_|refine zj (by first|exact dev|(rw [dev];rfl)|exact dH|(rw [dH];rfl)) ?_|refine zk (by first|exact dev|(rw [dev];rfl)|exact dH|(rw [dH];rfl)) ?_)
      conv=>whnf
      refine zsp hq1 rfl rfl (by omega) ?_
      intro q2 hW2 hR2 hq2
      obtain ⟨W2,R2,rm2,held2,f2,l2,b2,h2⟩:=q2
      dsimp only at hW2 hR2
      subst hW2
      clear dH dG dS
      have dH:=hq2.dH
      have dG:=hq2.dG
      have dS:=hq2.dS
      dsimp only at dH dG dS
      rcases R2 with _|⟨cw,ck,ci,cm⟩
      all_goals first|exact Bool.noConfusion (show false=true from hR2)|exact Bool.noConfusion (show true=false from hR2)|(
        dsimp only [hpA,stH,xv,rBz]
        repeat ((conv=>whnf);first|refine zu ?_|refine zg ?_|refine zh ?_|refine zb ?_|refine zr (by first|exact dH|(rw [dH];rfl)|exact dG|(rw [dG];rfl)|exact dS|exact bq1 dS|exact bq2 dS|exact bq3 dS|exact bq4 dS|exact bq5 dS) ?_|refine zj (by first|exact dH|(rw [dH];rfl)|exact dG|(rw [dG];rfl)|exact dS|exact bq1 dS|exact bq2 dS|exact bq3 dS|exact bq4 dS|exact bq5 dS) ?_|refine zk (by first|exact dH|(rw [dH];rfl)|exact dG|(rw [dG];rfl)|exact dS|exact bq1 dS|exact bq2 dS|exact bq3 dS|exact bq4 dS|exact bq5 dS) ?_)
        conv=>whnf
        refine HN _ (hq2.mono (by omega)) gl _ ?_
        subst hgl
        exact zn)
     ·have dev:=decide_eq_false hev
      repeat ((conv=>whnf);first|refine zu ?_|refine zg ?_|refine zh ?_|refine zb ?_|refine zr (by first|exact dev|(rw [dev];rfl)|exact dH|(rw [dH];rfl)|exact dG|(rw [dG];rfl)|exact dS|exact bq1 dS|exact bq2 dS|exact bq3 dS|exact bq4 dS|exact bq5 dS) ?_|refine zj (by first|exact dev|(rw [dev];rfl)|exact dH|(rw [dH];rfl)|exact dG|(rw [dG];rfl)|exact dS|exact bq1 dS|exact bq2 dS|exact bq3 dS|exact bq4 dS|exact bq5 dS) ?_|refine zk (by first|exact dev|(rw [dev];rfl)|exact dH|(rw [dH];rfl)|exact dG|(rw [dG];rfl)|exact dS|exact bq1 dS|exact bq2 dS|exact bq3 dS|exact bq4 dS|exact bq5 dS) ?_)
      conv=>whnf
      refine HN _ (hq1.mono (by omega)) gl _ ?_
      subst hgl
      exact zn)
end Go.Sym.Z

namespace Go.Sym.Z
open Go Go.Proofs.Tryz Go.Sym.Lp Go.Sym.Ring Go.Sym.Cha Go.Sym.Sha Go.Sym.Hk Go.Sym.Gcm
set_option maxRecDepth 100000
attribute [local irreducible] x3 exF kyF ivF y6 xq y3 inL ncF lnz iA hA hN hK za7 zcl hO hP hR hT iK hdF zl nxM nxR yj zgg drS
set_option maxHeartbeats 16000000 in
theorem yf0 (WW:World) (rows:List (List At)) (p z:Int) (a:Option Addr) (n c i:Nat) (hi:i<40) (hn:i<n) (W R:Option Kq) (rm:Int) (held:List UInt8) (f:Int) (l:List UInt8) (bb hh:Int) (hq:AI p z ⟨W,R,rm,held,f,l,bb,hh⟩ (32*i)) (kind:Int) (s:List UInt8) (u:Int) (t:List UInt8) (x:Int) (b:Bool) (hk5:kind=6) (hrw:rows[i]?=some [.int kind,.str s,.int u,.str t,.int x,.bool b]) (hs:s.length≤140737488351232) (ht:t.length≤140737488351232) (N:St→Prop) (X:Nat→St→Prop) (RR:St→Prop)
    (HN: ∀q,AI p z q (32*(i+1))→ ∀gl st,zdp 0 gl st.tm st.hp (tmA z a n c (i+1) q) (hpA p z q) True→N st):
    vc (ztd f8.ntmps zqq zeu WW [⟨63,a.getD ⟨0,0,none⟩,6,false,rows⟩]) pl8 0 z74 (tmA z a n c i ⟨W,R,rm,held,f,l,bb,hh⟩) (hpA p z ⟨W,R,rm,held,f,l,bb,hh⟩) N X RR:=by
  have hle:=hq.len
  have hky:=hq.ky (by omega)
  have hp0:=hq.hp
  have hz0:=hq.hz
  dsimp only at hle hky
  have hI:((i:Nat):Int).toNat=i:=Int.toNat_natCast _
  have hext:zeq [⟨63,a.getD ⟨0,0,none⟩,6,false,rows⟩] ((a.getD ⟨0,0,none⟩).add (((i:Nat):Int).toNat*zo5.sz)) 63 (.agg [.int kind,.str s,.int u,.str t,.int x,.bool b]):=⟨_,.head _,i,_,rfl,by rw [hI];rfl,hrw,rfl⟩
  by_cases hw:su u
  ·have d1:decide (su u)=true:=decide_eq_true hw
   have hq1:=(z3l hq hw t).mono (Nat.le_succ _)
   obtain ⟨gl,hgl⟩: ∃gl,gl=glW W R:=⟨_,rfl⟩
   rcases W with _|⟨aw,ak,ai,am⟩<;>rcases R with _|⟨bw,bk,bi,bm⟩
   all_goals (
     dsimp only [hpA,stH,xv,rBz]
     refine za ?_
     refine zmh _ hext ?_
     repeat ((conv=>whnf);first|refine zu ?_|refine zg ?_|refine zh ?_|refine zb ?_|refine zr (by first|exact d1|(rw [d1];rfl)) ?_|refine zj (by first|exact d1|(rw [d1];rfl)) ?_|refine zk (by first|exact d1|(rw [d1];rfl)) ?_)
     conv=>whnf
     have dH:=hq1.dH
     have dG:=hq1.dG
     have dS:=hq1.dS
     dsimp only at dH dG dS
     by_cases hev:zae BinOp.and kind 1=0
     ·have dev:=decide_eq_true hev
      repeat ((conv=>whnf);first|refine zu ?_|refine zg ?_|refine zh ?_|refine zb ?_|refine zr (by first|exact dev|(rw [dev];rfl)|exact dH|(rw [dH];rfl)) ?_|refine zj (by first|exact dev|(rw [dev];rfl)|exact dH|(rw [dH];rfl)) ?_|refine zk (by first|exact dev|(rw [dev];rfl)|exact dH|(rw [dH];rfl)) ?_)
      conv=>whnf
      refine zsp hq1 rfl rfl (by omega) ?_
      intro q2 hW2 hR2 hq2
      obtain ⟨W2,R2,rm2,held2,f2,l2,b2,h2⟩:=q2
      dsimp only at hW2 hR2
      subst hW2
      clear dH dG dS
      have dH:=hq2.dH
      have dG:=hq2.dG
      have dS:=hq2.dS
      dsimp only at dH dG dS
      rcases R2 with _|⟨cw,ck,ci,cm⟩
      all_goals first|exact Bool.noConfusion (show false=true from hR2)|exact Bool.noConfusion (show true=false from hR2)|(
        dsimp only [hpA,stH,xv,rBz]
        repeat ((conv=>whnf);first|refine zu ?_|refine zg ?_|refine zh ?_|refine zb ?_|refine zr (by first|exact dH|(rw [dH];rfl)|exact dG|(rw [dG];rfl)|exact dS|exact bq1 dS|exact bq2 dS|exact bq3 dS|exact bq4 dS|exact bq5 dS) ?_|refine zj (by first|exact dH|(rw [dH];rfl)|exact dG|(rw [dG];rfl)|exact dS|exact bq1 dS|exact bq2 dS|exact bq3 dS|exact bq4 dS|exact bq5 dS) ?_|refine zk (by first|exact dH|(rw [dH];rfl)|exact dG|(rw [dG];rfl)|exact dS|exact bq1 dS|exact bq2 dS|exact bq3 dS|exact bq4 dS|exact bq5 dS) ?_)
        conv=>whnf
        refine HN _ (hq2.mono (by omega)) gl _ ?_
        subst hgl
        exact zn)
     ·have dev:=decide_eq_false hev
      repeat ((conv=>whnf);first|refine zu ?_|refine zg ?_|refine zh ?_|refine zb ?_|refine zr (by first|exact dev|(rw [dev];rfl)|exact dH|(rw [dH];rfl)|exact dG|(rw [dG];rfl)|exact dS|exact bq1 dS|exact bq2 dS|exact bq3 dS|exact bq4 dS|exact bq5 dS) ?_|refine zj (by first|exact dev|(rw [dev];rfl)|exact dH|(rw [dH];rfl)|exact dG|(rw [dG];rfl)|exact dS|exact bq1 dS|exact bq2 dS|exact bq3 dS|exact bq4 dS|exact bq5 dS) ?_|refine zk (by first|exact dev|(rw [dev];rfl)|exact dH|(rw [dH];rfl)|exact dG|(rw [dG];rfl)|exact dS|exact bq1 dS|exact bq2 dS|exact bq3 dS|exact bq4 dS|exact bq5 dS) ?_)
      conv=>whnf
      refine HN _ (hq1.mono (by omega)) gl _ ?_
      subst hgl
      exact zn)
  ·have d1:decide (su u)=false:=decide_eq_false hw
   have hq1:=hq.mono (Nat.le_succ _)
   obtain ⟨gl,hgl⟩: ∃gl,gl=glI W R:=⟨_,rfl⟩
   rcases W with _|⟨aw,ak,ai,am⟩<;>rcases R with _|⟨bw,bk,bi,bm⟩
   all_goals (
     dsimp only [hpA,stH,xv,rBz]
     refine za ?_
     refine zmh _ hext ?_
     repeat ((conv=>whnf);first|refine zu ?_|refine zg ?_|refine zh ?_|refine zb ?_|refine zr (by first|exact d1|(rw [d1];rfl)) ?_|refine zj (by first|exact d1|(rw [d1];rfl)) ?_|refine zk (by first|exact d1|(rw [d1];rfl)) ?_)
     conv=>whnf
     have dH:=hq1.dH
     have dG:=hq1.dG
     have dS:=hq1.dS
     dsimp only at dH dG dS
     by_cases hev:zae BinOp.and kind 1=0
     ·have dev:=decide_eq_true hev
      repeat ((conv=>whnf);first|refine zu ?_|refine zg ?_|refine zh ?_|refine zb ?_|refine zr (by first|exact dev|(rw [dev];rfl)|exact dH|(rw [dH];rfl)) ?_|refine zj (by first|exact dev|(rw [dev];rfl)|exact dH|(rw [dH];rfl)) ?_|refine zk (by first|exact dev|(rw [dev];rfl)|exact dH|(rw [dH];rfl)) ?_)
      conv=>whnf
      refine zsp hq1 rfl rfl (by omega) ?_
      intro q2 hW2 hR2 hq2
      obtain ⟨W2,R2,rm2,held2,f2,l2,b2,h2⟩:=q2
      dsimp only at hW2 hR2
      subst hW2
      clear dH dG dS
      have dH:=hq2.dH
      have dG:=hq2.dG
      have dS:=hq2.dS
      dsimp only at dH dG dS
      rcases R2 with _|⟨cw,ck,ci,cm⟩
      all_goals first|exact Bool.noConfusion (show false=true from hR2)|exact Bool.noConfusion (show true=false from hR2)|(
        dsimp only [hpA,stH,xv,rBz]
        repeat ((conv=>whnf);first|refine zu ?_|refine zg ?_|refine zh ?_|refine zb ?_|refine zr (by first|exact dH|(rw [dH];rfl)|exact dG|(rw [dG];rfl)|exact dS|exact bq1 dS|exact bq2 dS|exact bq3 dS|exact bq4 dS|exact bq5 dS) ?_|refine zj (by first|exact dH|(rw [dH];rfl)|exact dG|(rw [dG];rfl)|exact dS|exact bq1 dS|exact bq2 dS|exact bq3 dS|exact bq4 dS|exact bq5 dS) ?_|refine zk (by first|exact dH|(rw [dH];rfl)|exact dG|(rw [dG];rfl)|exact dS|exact bq1 dS|exact bq2 dS|exact bq3 dS|exact bq4 dS|exact bq5 dS) ?_)
        conv=>whnf
        refine HN _ (hq2.mono (by omega)) gl _ ?_
        subst hgl
        exact zn)
     ·have dev:=decide_eq_false hev
      repeat ((conv=>whnf);first|refine zu ?_|refine zg ?_|refine zh ?_|refine zb ?_|refine zr (by first|exact dev|(rw [dev];rfl)|exact dH|(rw [dH];rfl)|exact dG|(rw [dG];rfl)|exact dS|exact bq1 dS|exact bq2 dS|exact bq3 dS|exact bq4 dS|exact bq5 dS) ?_|refine zj (by first|exact dev|(rw [dev];rfl)|exact dH|(rw [dH];rfl)|exact dG|(rw [dG];rfl)|exact dS|exact bq1 dS|exact bq2 dS|exact bq3 dS|exact bq4 dS|exact bq5 dS) ?_|refine zk (by first|exact dev|(rw [dev];rfl)|exact dH|(rw [dH];rfl)|exact dG|(rw [dG];rfl)|exact dS|exact bq1 dS|exact bq2 dS|exact bq3 dS|exact bq4 dS|exact bq5 dS) ?_)
      conv=>whnf
      refine HN _ (hq1.mono (by omega)) gl _ ?_
      subst hgl
      exact zn)
end Go.Sym.Z
