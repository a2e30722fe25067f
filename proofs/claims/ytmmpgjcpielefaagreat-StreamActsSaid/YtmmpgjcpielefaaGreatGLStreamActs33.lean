/-
  Contracts of functions of the program, each said of symbolic values, and plain laws; no condition beyond each statement's own.
-/
import Derived.Test.YtmmpgjcpielefaaGreatGLStreamActs32
set_option linter.unusedSimpArgs false
set_option linter.unusedVariables false
namespace Go.Sym.Z
open Go Go.Proofs.Tryz Go.Sym.Lp Go.Sym.Ring Go.Sym.Cha Go.Sym.Sha Go.Sym.Hk Go.Sym.Gcm
set_option maxRecDepth 100000
attribute [local irreducible] x3 exF kyF ivF y6 xq y3 inL ncF lnz iA hA hN hK za7 zcl hO hP hR hT iK hdF zl nxM nxR yj zgg drS
set_option maxHeartbeats 16000000 in
theorem yft (WW:World) (rows:List (List At)) (p z:Int) (a:Option Addr) (n c i:Nat) (hi:i<40) (hn:i<n) (W R:Option Kq) (rm:Int) (held:List UInt8) (f:Int) (l:List UInt8) (bb hh:Int) (hq:AI p z ⟨W,R,rm,held,f,l,bb,hh⟩ (32*i)) (kind:Int) (s:List UInt8) (u:Int) (t:List UInt8) (x:Int) (b:Bool) (hk5:6<kind) (hrw:rows[i]?=some [.int kind,.str s,.int u,.str t,.int x,.bool b]) (hs:s.length≤140737488351232) (ht:t.length≤140737488351232) (N:St→Prop) (X:Nat→St→Prop) (RR:St→Prop)
    (HN: ∀q,AI p z q (32*(i+1))→ ∀gl st,zdp 0 gl st.tm st.hp (tmA z a n c (i+1) q) (hpA p z q) True→N st):
    vc (ztd f8.ntmps zqq zeu WW [⟨63,a.getD ⟨0,0,none⟩,6,false,rows⟩]) pl8 0 z74 (tmA z a n c i ⟨W,R,rm,held,f,l,bb,hh⟩) (hpA p z ⟨W,R,rm,held,f,l,bb,hh⟩) N X RR:=by
  have hle:=hq.len
  have hky:=hq.ky (by omega)
  have hp0:=hq.hp
  have hz0:=hq.hz
  dsimp only at hle hky
  have hI:((i:Nat):Int).toNat=i:=Int.toNat_natCast _
  have hext:zeq [⟨63,a.getD ⟨0,0,none⟩,6,false,rows⟩] ((a.getD ⟨0,0,none⟩).add (((i:Nat):Int).toNat*zo5.sz)) 63 (.agg [.int kind,.str s,.int u,.str t,.int x,.bool b]):=⟨_,.head _,i,_,rfl,by rw [hI];rfl,hrw,rfl⟩
  obtain ⟨gl,hgl⟩: ∃gl,gl=glI W R:=⟨_,rfl⟩
  have hps:wOK W∧0≤p∧p≤16384∧s.length≤140737488351232:=⟨hky.1,hp0.1,hp0.2,hs⟩
  have hpr:(W.isSome=true→ze1 (kO W).w (kO W).key (kO W).iv (kO W).m)∧0≤p∧p≤16384∧s.length≤140737488351232:=⟨fun hw=>by cases W with|none=>cases hw|some k=>exact hky.1,hp0.1,hp0.2,hs⟩
  have hq0:AI p z ⟨upK W,R,rm,held,f,l,bb,hh⟩ (32*i+1):=by cases W with|none=>exact hq.mono (Nat.le_succ _)|some k=>exact z38 hq
  by_cases hw:yv x∧s.length≤16384
  ·have d1:decide (yv x∧s.length≤16384)=true:=decide_eq_true hw
   obtain ⟨S,hS⟩: ∃S,S=zdf p W x s:=⟨_,rfl⟩
   have hSn:W=none→hdF x (s.length:Int)++s=S:=fun h=>by subst h;exact hS.symm
   have hSs: ∀aw ak ai am,W=some ⟨aw,ak,ai,am⟩→za7 p aw ak ai am x s=S:=fun aw ak ai am h=>by subst h;exact hS.symm
   have hSl:S.length≤30000:=by
     cases W with
     |none=>rw [←hSn rfl,List.length_append,zhx];omega
     |some k=>
      have e:=z2e (p:=p) (w:=k.w) (key:=k.key) (iv:=k.iv) (m:=k.m) (kind:=x) (s:=s) hw.2 hp0.1
      have e2:=(zol (p:=p) (kind:=x) (s:=s) hw.2 hp0.1).2
      rw [hSs _ _ _ _ rfl] at e
      omega
   have hSO:=hS.symm
   have dSS:decide (S=S)=true:=decide_eq_true rfl
   have hpN:=znj hq0 (S).length
   dsimp only at hpN
   have hpp:yj z.toNat z.toNat z.toNat l bb hh∧(S).length≤4611686018427387904:=⟨hq.hr,by omega⟩
   have hpc:0≤z∧z≤262144∧(0<z→(held.length:Int)≤z)∧held.length+(S).length<9223372036854775808:=⟨by omega,hz0.2,fun _=>hle.2.2.1,by omega⟩
   obtain ⟨km,hkm⟩: ∃km,km=min (((S).length:Nat):Int) ((z.toNat:Nat)-hh):=⟨_,rfl⟩
   have dkm:decide (km=km)=true:=decide_eq_true rfl
   rw [←hkm] at hpN
   rcases W with _|⟨aw,ak,ai,am⟩<;>rcases R with _|⟨bw,bk,bi,bm⟩
   all_goals (
     dsimp only [hpA,stH,xv,rBz]
     refine za ?_
     refine zmh _ hext ?_
     dsimp only [upK] at hq0
     repeat ((conv=>whnf);first|refine zu ?_|refine zg ?_|refine zh ?_|refine zb ?_|refine zr (by first|exact d1|(rw [d1];rfl)) ?_|refine zj (by first|exact d1|(rw [d1];rfl)) ?_|refine zk (by first|exact d1|(rw [d1];rfl)) ?_)
     conv=>whnf
     rw [hSO]
     first|rw [hSn rfl]|rw [hSs _ _ _ _ rfl]
     cases b
     ·have hq1:=hq0
      repeat ((conv=>whnf);first|refine zu ?_|refine zg ?_|refine zh ?_|refine zb ?_|refine zr (by first|exact dSS|(rw [dSS];rfl)) ?_|refine zj (by first|exact dSS|(rw [dSS];rfl)) ?_|refine zk (by first|exact dSS|(rw [dSS];rfl)) ?_)
      conv=>whnf
      have dH:=hq1.dH
      have dG:=hq1.dG
      have dS:=hq1.dS
      dsimp only at dH dG dS
      by_cases hev:zae BinOp.and kind 1=0
      ·have dev:=decide_eq_true hev
       repeat ((conv=>whnf);first|refine zu ?_|refine zg ?_|refine zh ?_|refine zb ?_|refine zr (by first|exact dev|(rw [dev];rfl)|exact dH|(rw [dH];rfl)) ?_|refine zj (by first|exact dev|(rw [dev];rfl)|exact dH|(rw [dH];rfl)) ?_|refine zk (by first|exact dev|(rw [dev];rfl)|exact dH|(rw [dH];rfl)) ?_)
       conv=>whnf
       refine zsp hq1 rfl rfl (by omega) ?_
       intro q2 hW2 hR2 hq2
       obtain ⟨W2,R2,rm2,held2,f2,l2,b2,h2⟩:=q2
       dsimp only at hW2 hR2
       subst hW2
       clear dH dG dS
       have dH:=hq2.dH
       have dG:=hq2.dG
       have dS:=hq2.dS
       dsimp only at dH dG dS
       rcases R2 with _|⟨cw,ck,ci,cm⟩
       all_goals first|exact Bool.noConfusion (show false=true from hR2)|exact Bool.noConfusion (show true=false from hR2)|(
         dsimp only [hpA,stH,xv,rBz]
         repeat ((conv=>whnf);first|refine zu ?_|refine zg ?_|refine zh ?_|refine zb ?_|refine zr (by first|exact dH|(rw [dH];rfl)|exact dG|(rw [dG];rfl)|exact dS|exact bq1 dS|exact bq2 dS|exact bq3 dS|exact bq4 dS|exact bq5 dS) ?_|refine zj (by first|exact dH|(rw [dH];rfl)|exact dG|(rw [dG];rfl)|exact dS|exact bq1 dS|exact bq2 dS|exact bq3 dS|exact bq4 dS|exact bq5 dS) ?_|refine zk (by first|exact dH|(rw [dH];rfl)|exact dG|(rw [dG];rfl)|exact dS|exact bq1 dS|exact bq2 dS|exact bq3 dS|exact bq4 dS|exact bq5 dS) ?_)
         conv=>whnf
         refine HN _ (hq2.mono (by omega)) gl _ ?_
         subst hgl
         exact zn)
      ·have dev:=decide_eq_false hev
       repeat ((conv=>whnf);first|refine zu ?_|refine zg ?_|refine zh ?_|refine zb ?_|refine zr (by first|exact dev|(rw [dev];rfl)|exact dH|(rw [dH];rfl)|exact dG|(rw [dG];rfl)|exact dS|exact bq1 dS|exact bq2 dS|exact bq3 dS|exact bq4 dS|exact bq5 dS) ?_|refine zj (by first|exact dev|(rw [dev];rfl)|exact dH|(rw [dH];rfl)|exact dG|(rw [dG];rfl)|exact dS|exact bq1 dS|exact bq2 dS|exact bq3 dS|exact bq4 dS|exact bq5 dS) ?_|refine zk (by first|exact dev|(rw [dev];rfl)|exact dH|(rw [dH];rfl)|exact dG|(rw [dG];rfl)|exact dS|exact bq1 dS|exact bq2 dS|exact bq3 dS|exact bq4 dS|exact bq5 dS) ?_)
       conv=>whnf
       refine HN _ (hq1.mono (by omega)) gl _ ?_
       subst hgl
       exact zn
     ·repeat ((conv=>whnf);first|refine zu ?_|refine zg ?_|refine zh ?_|refine zb ?_|refine zr (by first|exact dSS|(rw [dSS];rfl)) ?_|refine zj (by first|exact dSS|(rw [dSS];rfl)) ?_|refine zk (by first|exact dSS|(rw [dSS];rfl)) ?_)
      conv=>whnf
      refine yi fun l1 hl1=>?_
      rw [←hkm] at hl1
      rw [←hkm]
      have hq1:=zs2 hq0 hkm hl1
      refine za ?_
      rw [hpN]
      repeat ((conv=>whnf);first|refine zu ?_|refine zg ?_|refine zh ?_|refine zb ?_|refine zr (by first|exact dkm|(rw [dkm];rfl)) ?_|refine zj (by first|exact dkm|(rw [dkm];rfl)) ?_|refine zk (by first|exact dkm|(rw [dkm];rfl)) ?_)
      conv=>whnf
      have dH:=hq1.dH
      have dG:=hq1.dG
      have dS:=hq1.dS
      dsimp only at dH dG dS
      by_cases hev:zae BinOp.and kind 1=0
      ·have dev:=decide_eq_true hev
       repeat ((conv=>whnf);first|refine zu ?_|refine zg ?_|refine zh ?_|refine zb ?_|refine zr (by first|exact dev|(rw [dev];rfl)|exact dH|(rw [dH];rfl)) ?_|refine zj (by first|exact dev|(rw [dev];rfl)|exact dH|(rw [dH];rfl)) ?_|refine zk (by first|exact dev|(rw [dev];rfl)|exact dH|(rw [dH];rfl)) ?_)
       conv=>whnf
       refine zsp hq1 rfl rfl (by omega) ?_
       intro q2 hW2 hR2 hq2
       obtain ⟨W2,R2,rm2,held2,f2,l2,b2,h2⟩:=q2
       dsimp only at hW2 hR2
       subst hW2
       clear dH dG dS
       have dH:=hq2.dH
       have dG:=hq2.dG
       have dS:=hq2.dS
       dsimp only at dH dG dS
       rcases R2 with _|⟨cw,ck,ci,cm⟩
       all_goals first|exact Bool.noConfusion (show false=true from hR2)|exact Bool.noConfusion (show true=false from hR2)|(
         dsimp only [hpA,stH,xv,rBz]
         repeat ((conv=>whnf);first|refine zu ?_|refine zg ?_|refine zh ?_|refine zb ?_|refine zr (by first|exact dH|(rw [dH];rfl)|exact dG|(rw [dG];rfl)|exact dS|exact bq1 dS|exact bq2 dS|exact bq3 dS|exact bq4 dS|exact bq5 dS) ?_|refine zj (by first|exact dH|(rw [dH];rfl)|exact dG|(rw [dG];rfl)|exact dS|exact bq1 dS|exact bq2 dS|exact bq3 dS|exact bq4 dS|exact bq5 dS) ?_|refine zk (by first|exact dH|(rw [dH];rfl)|exact dG|(rw [dG];rfl)|exact dS|exact bq1 dS|exact bq2 dS|exact bq3 dS|exact bq4 dS|exact bq5 dS) ?_)
         conv=>whnf
         refine HN _ (hq2.mono (by omega)) gl _ ?_
         subst hgl
         exact zn)
      ·have dev:=decide_eq_false hev
       repeat ((conv=>whnf);first|refine zu ?_|refine zg ?_|refine zh ?_|refine zb ?_|refine zr (by first|exact dev|(rw [dev];rfl)|exact dH|(rw [dH];rfl)|exact dG|(rw [dG];rfl)|exact dS|exact bq1 dS|exact bq2 dS|exact bq3 dS|exact bq4 dS|exact bq5 dS) ?_|refine zj (by first|exact dev|(rw [dev];rfl)|exact dH|(rw [dH];rfl)|exact dG|(rw [dG];rfl)|exact dS|exact bq1 dS|exact bq2 dS|exact bq3 dS|exact bq4 dS|exact bq5 dS) ?_|refine zk (by first|exact dev|(rw [dev];rfl)|exact dH|(rw [dH];rfl)|exact dG|(rw [dG];rfl)|exact dS|exact bq1 dS|exact bq2 dS|exact bq3 dS|exact bq4 dS|exact bq5 dS) ?_)
       conv=>whnf
       refine HN _ (hq1.mono (by omega)) gl _ ?_
       subst hgl
       exact zn)
  ·have d1:decide (yv x∧s.length≤16384)=false:=decide_eq_false hw
   have dSS:decide (([]:List UInt8)= [])=true:=decide_eq_true rfl
   have hq0:=hq.mono (Nat.le_succ (32*i))
   have hpN:=znj hq0 (([]:List UInt8)).length
   dsimp only at hpN
   have hpp:yj z.toNat z.toNat z.toNat l bb hh∧(([]:List UInt8)).length≤4611686018427387904:=⟨hq.hr,by simp only [List.length_nil];omega⟩
   have hpc:0≤z∧z≤262144∧(0<z→(held.length:Int)≤z)∧held.length+(([]:List UInt8)).length<9223372036854775808:=⟨by omega,hz0.2,fun _=>hle.2.2.1,by simp only [List.length_nil];omega⟩
   obtain ⟨km,hkm⟩: ∃km,km=min (((([]:List UInt8)).length:Nat):Int) ((z.toNat:Nat)-hh):=⟨_,rfl⟩
   have dkm:decide (km=km)=true:=decide_eq_true rfl
   rw [←hkm] at hpN
   rcases W with _|⟨aw,ak,ai,am⟩<;>rcases R with _|⟨bw,bk,bi,bm⟩
   all_goals (
     dsimp only [hpA,stH,xv,rBz]
     refine za ?_
     refine zmh _ hext ?_
     cases b
     ·have hq1:=hq0
      repeat ((conv=>whnf);first|refine zu ?_|refine zg ?_|refine zh ?_|refine zb ?_|refine zr (by first|exact d1|(rw [d1];rfl)|exact dSS|(rw [dSS];rfl)) ?_|refine zj (by first|exact d1|(rw [d1];rfl)|exact dSS|(rw [dSS];rfl)) ?_|refine zk (by first|exact d1|(rw [d1];rfl)|exact dSS|(rw [dSS];rfl)) ?_)
      conv=>whnf
      have dH:=hq1.dH
      have dG:=hq1.dG
      have dS:=hq1.dS
      dsimp only at dH dG dS
      by_cases hev:zae BinOp.and kind 1=0
      ·have dev:=decide_eq_true hev
       repeat ((conv=>whnf);first|refine zu ?_|refine zg ?_|refine zh ?_|refine zb ?_|refine zr (by first|exact dev|(rw [dev];rfl)|exact dH|(rw [dH];rfl)) ?_|refine zj (by first|exact dev|(rw [dev];rfl)|exact dH|(rw [dH];rfl)) ?_|refine zk (by first|exact dev|(rw [dev];rfl)|exact dH|(rw [dH];rfl)) ?_)
       conv=>whnf
       refine zsp hq1 rfl rfl (by omega) ?_
       intro q2 hW2 hR2 hq2
       obtain ⟨W2,R2,rm2,held2,f2,l2,b2,h2⟩:=q2
       dsimp only at hW2 hR2
       subst hW2
       clear dH dG dS
       have dH:=hq2.dH
       have dG:=hq2.dG
       have dS:=hq2.dS
       dsimp only at dH dG dS
       rcases R2 with _|⟨cw,ck,ci,cm⟩
       all_goals first|exact Bool.noConfusion (show false=true from hR2)|exact Bool.noConfusion (show true=false from hR2)|(
         dsimp only [hpA,stH,xv,rBz]
         repeat ((conv=>whnf);first|refine zu ?_|refine zg ?_|refine zh ?_|refine zb ?_|refine zr (by first|exact dH|(rw [dH];rfl)|exact dG|(rw [dG];rfl)|exact dS|exact bq1 dS|exact bq2 dS|exact bq3 dS|exact bq4 dS|exact bq5 dS) ?_|refine zj (by first|exact dH|(rw [dH];rfl)|exact dG|(rw [dG];rfl)|exact dS|exact bq1 dS|exact bq2 dS|exact bq3 dS|exact bq4 dS|exact bq5 dS) ?_|refine zk (by first|exact dH|(rw [dH];rfl)|exact dG|(rw [dG];rfl)|exact dS|exact bq1 dS|exact bq2 dS|exact bq3 dS|exact bq4 dS|exact bq5 dS) ?_)
         conv=>whnf
         refine HN _ (hq2.mono (by omega)) gl _ ?_
         subst hgl
         exact zn)
      ·have dev:=decide_eq_false hev
       repeat ((conv=>whnf);first|refine zu ?_|refine zg ?_|refine zh ?_|refine zb ?_|refine zr (by first|exact dev|(rw [dev];rfl)|exact dH|(rw [dH];rfl)|exact dG|(rw [dG];rfl)|exact dS|exact bq1 dS|exact bq2 dS|exact bq3 dS|exact bq4 dS|exact bq5 dS) ?_|refine zj (by first|exact dev|(rw [dev];rfl)|exact dH|(rw [dH];rfl)|exact dG|(rw [dG];rfl)|exact dS|exact bq1 dS|exact bq2 dS|exact bq3 dS|exact bq4 dS|exact bq5 dS) ?_|refine zk (by first|exact dev|(rw [dev];rfl)|exact dH|(rw [dH];rfl)|exact dG|(rw [dG];rfl)|exact dS|exact bq1 dS|exact bq2 dS|exact bq3 dS|exact bq4 dS|exact bq5 dS) ?_)
       conv=>whnf
       refine HN _ (hq1.mono (by omega)) gl _ ?_
       subst hgl
       exact zn
     ·repeat ((conv=>whnf);first|refine zu ?_|refine zg ?_|refine zh ?_|refine zb ?_|refine zr (by first|exact d1|(rw [d1];rfl)|exact dSS|(rw [dSS];rfl)) ?_|refine zj (by first|exact d1|(rw [d1];rfl)|exact dSS|(rw [dSS];rfl)) ?_|refine zk (by first|exact d1|(rw [d1];rfl)|exact dSS|(rw [dSS];rfl)) ?_)
      conv=>whnf
      refine yi fun l1 hl1=>?_
      rw [←hkm] at hl1
      rw [←hkm]
      have hq1:=zs2 hq0 hkm hl1
      refine za ?_
      rw [hpN]
      repeat ((conv=>whnf);first|refine zu ?_|refine zg ?_|refine zh ?_|refine zb ?_|refine zr (by first|exact dkm|(rw [dkm];rfl)) ?_|refine zj (by first|exact dkm|(rw [dkm];rfl)) ?_|refine zk (by first|exact dkm|(rw [dkm];rfl)) ?_)
      conv=>whnf
      have dH:=hq1.dH
      have dG:=hq1.dG
      have dS:=hq1.dS
      dsimp only at dH dG dS
      by_cases hev:zae BinOp.and kind 1=0
      ·have dev:=decide_eq_true hev
       repeat ((conv=>whnf);first|refine zu ?_|refine zg ?_|refine zh ?_|refine zb ?_|refine zr (by first|exact dev|(rw [dev];rfl)|exact dH|(rw [dH];rfl)) ?_|refine zj (by first|exact dev|(rw [dev];rfl)|exact dH|(rw [dH];rfl)) ?_|refine zk (by first|exact dev|(rw [dev];rfl)|exact dH|(rw [dH];rfl)) ?_)
       conv=>whnf
       refine zsp hq1 rfl rfl (by omega) ?_
       intro q2 hW2 hR2 hq2
       obtain ⟨W2,R2,rm2,held2,f2,l2,b2,h2⟩:=q2
       dsimp only at hW2 hR2
       subst hW2
       clear dH dG dS
       have dH:=hq2.dH
       have dG:=hq2.dG
       have dS:=hq2.dS
       dsimp only at dH dG dS
       rcases R2 with _|⟨cw,ck,ci,cm⟩
       all_goals first|exact Bool.noConfusion (show false=true from hR2)|exact Bool.noConfusion (show true=false from hR2)|(
         dsimp only [hpA,stH,xv,rBz]
         repeat ((conv=>whnf);first|refine zu ?_|refine zg ?_|refine zh ?_|refine zb ?_|refine zr (by first|exact dH|(rw [dH];rfl)|exact dG|(rw [dG];rfl)|exact dS|exact bq1 dS|exact bq2 dS|exact bq3 dS|exact bq4 dS|exact bq5 dS) ?_|refine zj (by first|exact dH|(rw [dH];rfl)|exact dG|(rw [dG];rfl)|exact dS|exact bq1 dS|exact bq2 dS|exact bq3 dS|exact bq4 dS|exact bq5 dS) ?_|refine zk (by first|exact dH|(rw [dH];rfl)|exact dG|(rw [dG];rfl)|exact dS|exact bq1 dS|exact bq2 dS|exact bq3 dS|exact bq4 dS|exact bq5 dS) ?_)
         conv=>whnf
         refine HN _ (hq2.mono (by omega)) gl _ ?_
         subst hgl
         exact zn)
      ·have dev:=decide_eq_false hev
       repeat ((conv=>whnf);first|refine zu ?_|refine zg ?_|refine zh ?_|refine zb ?_|refine zr (by first|exact dev|(rw [dev];rfl)|exact dH|(rw [dH];rfl)|exact dG|(rw [dG];rfl)|exact dS|exact bq1 dS|exact bq2 dS|exact bq3 dS|exact bq4 dS|exact bq5 dS) ?_|refine zj (by first|exact dev|(rw [dev];rfl)|exact dH|(rw [dH];rfl)|exact dG|(rw [dG];rfl)|exact dS|exact bq1 dS|exact bq2 dS|exact bq3 dS|exact bq4 dS|exact bq5 dS) ?_|refine zk (by first|exact dev|(rw [dev];rfl)|exact dH|(rw [dH];rfl)|exact dG|(rw [dG];rfl)|exact dS|exact bq1 dS|exact bq2 dS|exact bq3 dS|exact bq4 dS|exact bq5 dS) ?_)
       conv=>whnf
       refine HN _ (hq1.mono (by omega)) gl _ ?_
       subst hgl
       exact zn)
end Go.Sym.Z

namespace Go.Sym.Z
open Go Go.Proofs.Tryz Go.Sym.Lp Go.Sym.Ring Go.Sym.Cha Go.Sym.Sha Go.Sym.Hk Go.Sym.Gcm
set_option maxRecDepth 100000
structure OQ2 (p z:Int) (n:Nat) where
  i:Nat
  hn:i≤n
  h40:i≤40
  q:AQ
  hq:AI p z q (32*i)
theorem z6m (WW:World) (rows:List (List At)) (p z:Int) (a:Option Addr) (n c i:Nat) (hi:i<40) (hn:i<n) (q:AQ) (hq:AI p z q (32*i)) (kind:Int) (s:List UInt8) (u:Int) (t:List UInt8) (x:Int) (b:Bool) (hrw:rows[i]?=some [.int kind,.str s,.int u,.str t,.int x,.bool b]) (hs:s.length≤140737488351232) (ht:t.length≤140737488351232) (N:St→Prop) (X:Nat→St→Prop) (RR:St→Prop)
    (HN: ∀q,AI p z q (32*(i+1))→ ∀gl st,zdp 0 gl st.tm st.hp (tmA z a n c (i+1) q) (hpA p z q) True→N st):
    vc (ztd f8.ntmps zqq zeu WW [⟨63,a.getD ⟨0,0,none⟩,6,false,rows⟩]) pl8 0 z74 (tmA z a n c i q) (hpA p z q) N X RR:=by
  have h4:kind<5∨kind=5∨kind=6∨6<kind:=by omega
  obtain ⟨W',R',rm,held,f,l,bb,hh⟩:=q
  rcases h4 with h|h|h|h
  ·exact yff WW rows p z a n c i hi hn W' R' rm held f l bb hh hq kind s u t x b h hrw hs ht N X RR HN
  ·exact yd4 WW rows p z a n c i hi hn W' R' rm held f l bb hh hq kind s u t x b h hrw hs ht N X RR HN
  ·exact yf0 WW rows p z a n c i hi hn W' R' rm held f l bb hh hq kind s u t x b h hrw hs ht N X RR HN
  ·exact yft WW rows p z a n c i hi hn W' R' rm held f l bb hh hq kind s u t x b h hrw hs ht N X RR HN
def NfW (p z:Int) (a:Option Addr) (n c:Nat) (i:Nat):St→Prop:=fun st'=> ∃(j:OQ2 p z n) (gl:List Nat),40-j.i<40-i∧zdp 0 gl st'.tm st'.hp (tmA z a n c j.i j.q) (hpA p z j.q) True
attribute [local irreducible] x3 exF kyF ivF y6 xq y3 inL ncF lnz iA hA hN hK za7 zcl hO hP hR hT iK hdF zl nxM nxR zdf yj zgg
set_option maxHeartbeats 8000000 in
theorem zq2 (WW:World) (pad size:Int) (a:Option Addr) (n c:Nat) (rows:List (List At)) (hn:rows.length=n) (hb:n*64≤140737488351232) (hrows: ∀r∈rows,∃k s u t x b,r= [.int k,.str s,.int u,.str t,.int x,.bool b]∧s.length≤140737488351232∧t.length≤140737488351232):
    zzl (ztd f8.ntmps zqq zeu WW [⟨63,a.getD ⟨0,0,none⟩,6,false,rows⟩]) pl8 (zqn f8) f8.results.toList [.int pad,.int size,.xsl a n c] [] (fun r _=>r= .bool true):=by
  by_cases hp:zqb pad size
  ·have dp:decide (zqb pad size)=true:=decide_eq_true hp
   have hp':=hp
   unfold zqb at hp'
   have dr:decide (zi4 pad size)=true:=decide_eq_true (by unfold zi4;omega)
   have hr0:=z16 (n:=size.toNat) (by omega)
   have hai:AI pad size ⟨none,none,0,[], -1,List.replicate size.toNat 0,0,0⟩ (32*0):=⟨hp'.1,hp'.2,fun _ h=>(by cases h),fun _ h=>(by cases h),⟨Int.le_refl _,Int.le_refl _⟩,fun _ _ h=>(by cases h),.inl rfl,zzs hr0,rfl,fun _=>hr0⟩
   repeat ((conv=>whnf);first|refine zu ?_|refine zg ?_|refine zh ?_|refine zb ?_|refine zr (by first|exact dp|exact dr|(rw [dr];rfl)) ?_|refine zj (by first|exact dp|exact dr|(rw [dr];rfl)) ?_|refine zk (by first|exact dp|exact dr|(rw [dr];rfl)) ?_)
   conv=>whnf
   refine zt (OQ2 pad size n) (fun s=>⟨tmA size a n c s.i s.q,hpA pad size s.q⟩) (fun s=>40-s.i) ⟨0,Nat.zero_le _,Nat.zero_le _,⟨none,none,0,[], -1,List.replicate size.toNat 0,0,0⟩,hai⟩ [0,1,2,3] ?_ ?_
   ·exact zn
   ·intro s
    obtain ⟨i,hin,hi40,q,hq⟩:=s
    by_cases hh:i<n∧i<40
    ·obtain ⟨r,hr⟩: ∃r,rows[i]?=some r:=⟨rows[i]'(by omega),List.getElem?_eq_getElem (by omega)⟩
     obtain ⟨kd,s,u,t,x,b,rfl,hs,ht⟩:=hrows r (List.mem_of_getElem? hr)
     have key:=z6m WW rows pad size a n c i hh.2 hh.1 q hq kd s u t x b hr hs ht (NfW pad size a n c i) (XfV (ztd f8.ntmps zqq zeu WW [⟨63,a.getD ⟨0,0,none⟩,6,false,rows⟩]) pl8 f8.results.toList (fun r _=>r= .bool true) (cs2 (cs2 (cs2 (cs2 (cs2 (cs2 (zqn f8)))))))) (RfV (ztd f8.ntmps zqq zeu WW [⟨63,a.getD ⟨0,0,none⟩,6,false,rows⟩]) f8.results.toList (fun r _=>r= .bool true)) (fun q' hq' gl st he=>⟨⟨i+1,hh.1,hh.2,q',hq'⟩,gl,by show 40-(i+1)<40-i;omega,he⟩)
     exact key
    ·obtain ⟨W',R',rm,held,f,l,bb,hh'⟩:=q
     by_cases ha:i<n<;>by_cases hb4:i<40
     ·exact absurd ⟨ha,hb4⟩ hh
     all_goals
       cases W'<;>cases R'
       all_goals (
         dsimp only [hpA,stH,xv,rBz]
         refine za ?_
         exact zf (hp':= []) [] rfl)
  ·have dp:decide (zqb pad size)=false:=decide_eq_false hp
   have hp':=hp
   unfold zqb at hp'
   by_cases hz:size=0
   ·by_cases hpp:0≤pad∧pad≤16384
    ·have dr:decide (zi4 pad size)=true:=decide_eq_true (by unfold zi4;omega)
     repeat ((conv=>whnf);first|refine zu ?_|refine zg ?_|refine zh ?_|refine zb ?_|refine zr (by first|exact dp|exact dr|(rw [dr];rfl)) ?_|refine zj (by first|exact dp|exact dr|(rw [dr];rfl)) ?_|refine zk (by first|exact dp|exact dr|(rw [dr];rfl)) ?_)
     conv=>whnf
     exact zf (hp':= []) [] rfl
    ·have dr:decide (zi4 pad size)=false:=decide_eq_false (by unfold zi4;omega)
     repeat ((conv=>whnf);first|refine zu ?_|refine zg ?_|refine zh ?_|refine zb ?_|refine zr (by first|exact dp|exact dr|(rw [dr];rfl)) ?_|refine zj (by first|exact dp|exact dr|(rw [dr];rfl)) ?_|refine zk (by first|exact dp|exact dr|(rw [dr];rfl)) ?_)
     conv=>whnf
     exact zf (hp':= []) [] rfl
   ·have dr:decide (zi4 pad size)=false:=decide_eq_false (by unfold zi4;omega)
    repeat ((conv=>whnf);first|refine zu ?_|refine zg ?_|refine zh ?_|refine zb ?_|refine zr (by first|exact dp|exact dr|(rw [dr];rfl)) ?_|refine zj (by first|exact dp|exact dr|(rw [dr];rfl)) ?_|refine zk (by first|exact dp|exact dr|(rw [dr];rfl)) ?_)
    conv=>whnf
    exact zf (hp':= []) [] rfl
theorem z63 {r:List At} (h:ziy [.i,.s,.i,.s,.i,.b] r): ∃k s u t x b,r= [.int k,.str s,.int u,.str t,.int x,.bool b]∧s.length≤140737488351232∧t.length≤140737488351232:=by
  match r,h with
  | [.int k,.str s,.int u,.str t,.int x,.bool b],h=>exact ⟨k,s,u,t,x,b,rfl,h.2.1,h.2.2.2.1⟩
theorem zqh (WW:World) (pad:Int) (_: -9223372036854775808≤pad∧pad≤9223372036854775807) (size:Int) (_: -9223372036854775808≤size∧size≤9223372036854775807) (a:Option Addr) (n c:Nat) (rows:List (List At)) (hn:rows.length=n) (hb:n*64≤140737488351232) (has: ∀r∈rows,ziy [.i,.s,.i,.s,.i,.b] r∧r.length=6):
    zzl (ztd f8.ntmps zqq zeu WW [⟨63,a.getD ⟨0,0,none⟩,6,false,rows⟩]) pl8 (zqn f8) f8.results.toList [.int pad,.int size,.xsl a n c] [] (fun r _=>r= .bool true):=
  zq2 WW pad size a n c rows hn hb fun r hr=>z63 (has r hr).1
end Go.Sym.Z
