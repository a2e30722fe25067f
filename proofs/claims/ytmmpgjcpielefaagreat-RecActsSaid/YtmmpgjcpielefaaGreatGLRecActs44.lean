/-
  Contracts of functions of the program, each said of symbolic values, and plain laws; no condition beyond each statement's own.
-/
import Derived.Test.YtmmpgjcpielefaaGreatGLRecActs43
set_option linter.unusedSimpArgs false
set_option linter.unusedVariables false
namespace Go.Sym.Z
open Go Go.Proofs.Tryz Go.Sym.Lp Go.Sym.Cha Go.Sym.Sha Go.Sym.Hk Go.Sym.Gcm
set_option maxRecDepth 100000
theorem zak (m:Nat) (s:List UInt8):s.take (zox 0 m s.length).toNat=s:=by
  unfold zox;rw [if_neg (by decide),Int.toNat_natCast];exact List.take_length
theorem zb9 {W R:Option Kq} {rm:Int} {held:List UInt8} {f:Int} {B:Nat} (h:RI ⟨W,R,rm,held,f⟩ B) {s:List UInt8} (hs:s.length≤281474976710656):RI ⟨W,R,rm,held++s,f⟩ (B+1):=
  have g:=h.mono (Nat.le_succ B)
  ⟨g.hW,g.hR,g.hm,g.he,g.hf,by have:=h.hl;simp only at this ⊢;rw [List.length_append];omega⟩
theorem zju {W R:Option Kq} {rm:Int} {held:List UInt8} {f:Int} {B:Nat} (h:RI ⟨W,R,rm,held,f⟩ B) {w:Int} (hw:su w) (t:List UInt8):RI ⟨W,some ⟨w,kyF w t,ivF w t,0⟩,0,held,f⟩ (B+1):=
  have g:=h.mono (Nat.le_succ B)
  ⟨g.hW,fun k hk=>by cases hk;exact ⟨hw,znk _ _,znd _ _,Int.le_refl _,by simp only;omega⟩,⟨Int.le_refl _,by simp only;omega⟩,fun _ k hk=>by cases hk;rfl,g.hf,g.hl⟩
theorem zib {W R:Option Kq} {rm:Int} {held:List UInt8} {f:Int} {B:Nat} (h:RI ⟨W,R,rm,held,f⟩ B) {w:Int} (hw:su w) (t:List UInt8):RI ⟨some ⟨w,kyF w t,ivF w t,0⟩,R,rm,held,f⟩ (B+1):=
  have g:=h.mono (Nat.le_succ B)
  ⟨fun k hk=>by cases hk;exact ⟨hw,znk _ _,znd _ _,Int.le_refl _,by simp only;omega⟩,g.hR,g.hm,g.he,g.hf,g.hl⟩
theorem zq4 {R:Option Kq} {w:Int} {key iv:List UInt8} {m rm:Int} {held:List UInt8} {f:Int} {B:Nat} (h:RI ⟨some ⟨w,key,iv,m⟩,R,rm,held,f⟩ B):RI ⟨some ⟨w,key,iv,m+1⟩,R,rm,held,f⟩ (B+1):=
  have g:=h.mono (Nat.le_succ B)
  ⟨z1i h.hW,g.hR,g.hm,g.he,g.hf,g.hl⟩
theorem zms {R:Option Kq} {w:Int} {key iv:List UInt8} {m rm:Int} {held:List UInt8} {f:Int} {B:Nat} (h:RI ⟨some ⟨w,key,iv,m⟩,R,rm,held,f⟩ B) {s:List UInt8} (hs:s.length≤281474976710656):RI ⟨some ⟨w,key,iv,m+1⟩,R,rm,held++s,f⟩ (B+1):=
  have g:=zb9 h hs
  ⟨z1i h.hW,g.hR,g.hm,g.he,g.hf,g.hl⟩
attribute [local irreducible] za2 exF kyF ivF xi zau y0 inL ncF lnz iA hA hN hK yq zao hO hP hR hT iK yg hdF zox
set_option maxHeartbeats 16000000 in
theorem zwy (W:World) (rows:List (List At)) (p:Int) (hp0:0≤p∧p≤16384) (a:Option Addr) (n c i:Nat) (hi:i<40) (hn:i<n) (aw:Int) (ak ai:List UInt8) (am:Int) (bw:Int) (bk bi:List UInt8) (bm:Int) (rm:Int) (held:List UInt8) (f:Int) (hq:RI ⟨some ⟨aw,ak,ai,am⟩,some ⟨bw,bk,bi,bm⟩,rm,held,f⟩ (31*i)) (kind:Int) (s:List UInt8) (u:Int) (t:List UInt8) (x:Int) (b:Bool) (hk5:kind<5) (hr:rows[i]?=some [.int kind,.str s,.int u,.str t,.int x,.bool b]) (hs:s.length≤140737488351232) (ht:t.length≤140737488351232) (N:St→Prop) (X:Nat→St→Prop) (R:St→Prop)
    (HN: ∀q,RI q (31*(i+1))→ ∀gl st,xt 0 gl st.tm st.hp (tmQ a n c (i+1) q) (hpQ p q) True→N st):
    vc (zal f3.ntmps zai yw W [⟨33,a.getD ⟨0,0,none⟩,6,false,rows⟩]) pl3 0 OBc (tmQ a n c i ⟨some ⟨aw,ak,ai,am⟩,some ⟨bw,bk,bi,bm⟩,rm,held,f⟩) (hpQ p ⟨some ⟨aw,ak,ai,am⟩,some ⟨bw,bk,bi,bm⟩,rm,held,f⟩) N X R:=by
  have hl:=hq.hl
  have hf0:=hq.hf
  have hky:=hq.ky (by omega)
  simp only at hl hf0
  have hI:((i:Nat):Int).toNat=i:=Int.toNat_natCast _
  have hext:x3 [⟨33,a.getD ⟨0,0,none⟩,6,false,rows⟩] ((a.getD ⟨0,0,none⟩).add (((i:Nat):Int).toNat*zc3.sz)) 33 (.agg [.int kind,.str s,.int u,.str t,.int x,.bool b]):=⟨_,.head _,i,_,rfl,by rw [hI];rfl,hr,rfl⟩
  refine za ?_
  refine zdj _ hext ?_
  have hpl:held.length+s.length<9223372036854775808:=by omega
  have hpc:0≤(0:Int)∧(0:Int)≤262144∧((0:Int)<0→(held.length:Int)≤0)∧held.length+s.length<9223372036854775808:=⟨by decide,by decide,fun h=>absurd h (by decide),hpl⟩
  refine za ?_
  rw [zak]
  refine y7 W _ p a n c i hi N X R HN ⟨some ⟨aw,ak,ai,am⟩,some ⟨bw,bk,bi,bm⟩,rm,held++s,f⟩ (zb9 hq (by omega)) [0,1,2,3] _ _ ?_
  exact zo
set_option maxHeartbeats 16000000 in
theorem ztk (W:World) (rows:List (List At)) (p:Int) (hp0:0≤p∧p≤16384) (a:Option Addr) (n c i:Nat) (hi:i<40) (hn:i<n) (aw:Int) (ak ai:List UInt8) (am:Int) (bw:Int) (bk bi:List UInt8) (bm:Int) (rm:Int) (held:List UInt8) (f:Int) (hq:RI ⟨some ⟨aw,ak,ai,am⟩,some ⟨bw,bk,bi,bm⟩,rm,held,f⟩ (31*i)) (kind:Int) (s:List UInt8) (u:Int) (t:List UInt8) (x:Int) (b:Bool) (hk5:kind=5) (hr:rows[i]?=some [.int kind,.str s,.int u,.str t,.int x,.bool b]) (hs:s.length≤140737488351232) (ht:t.length≤140737488351232) (N:St→Prop) (X:Nat→St→Prop) (R:St→Prop)
    (HN: ∀q,RI q (31*(i+1))→ ∀gl st,xt 0 gl st.tm st.hp (tmQ a n c (i+1) q) (hpQ p q) True→N st):
    vc (zal f3.ntmps zai yw W [⟨33,a.getD ⟨0,0,none⟩,6,false,rows⟩]) pl3 0 OBc (tmQ a n c i ⟨some ⟨aw,ak,ai,am⟩,some ⟨bw,bk,bi,bm⟩,rm,held,f⟩) (hpQ p ⟨some ⟨aw,ak,ai,am⟩,some ⟨bw,bk,bi,bm⟩,rm,held,f⟩) N X R:=by
  have hl:=hq.hl
  have hf0:=hq.hf
  have hky:=hq.ky (by omega)
  simp only at hl hf0
  have hI:((i:Nat):Int).toNat=i:=Int.toNat_natCast _
  have hext:x3 [⟨33,a.getD ⟨0,0,none⟩,6,false,rows⟩] ((a.getD ⟨0,0,none⟩).add (((i:Nat):Int).toNat*zc3.sz)) 33 (.agg [.int kind,.str s,.int u,.str t,.int x,.bool b]):=⟨_,.head _,i,_,rfl,by rw [hI];rfl,hr,rfl⟩
  refine za ?_
  refine zdj _ hext ?_
  by_cases hw:su u
  ·have d1:decide (su u)=true:=decide_eq_true hw
   repeat ((conv=>whnf);first|refine zq ?_|refine zg ?_|refine zf ?_|refine zb ?_|refine zr (by first|exact d1|(rw [d1];rfl)) ?_|refine zj (by first|exact d1|(rw [d1];rfl)) ?_|refine zk (by first|exact d1|(rw [d1];rfl)) ?_)
   conv=>whnf
   refine y7 W _ p a n c i hi N X R HN ⟨some ⟨aw,ak,ai,am⟩,some ⟨u,kyF u t,ivF u t,0⟩,0,held,f⟩ (zju hq hw t) [0,1,5,3] _ _ ?_
   exact zo
  ·have d1:decide (su u)=false:=decide_eq_false hw
   repeat ((conv=>whnf);first|refine zq ?_|refine zg ?_|refine zf ?_|refine zb ?_|refine zr (by first|exact d1|(rw [d1];rfl)) ?_|refine zj (by first|exact d1|(rw [d1];rfl)) ?_|refine zk (by first|exact d1|(rw [d1];rfl)) ?_)
   conv=>whnf
   refine y7 W _ p a n c i hi N X R HN ⟨some ⟨aw,ak,ai,am⟩,some ⟨bw,bk,bi,bm⟩,rm,held,f⟩ (hq.mono (Nat.le_succ _)) [0,1,2,3] _ _ ?_
   exact zo
set_option maxHeartbeats 16000000 in
theorem zqh (W:World) (rows:List (List At)) (p:Int) (hp0:0≤p∧p≤16384) (a:Option Addr) (n c i:Nat) (hi:i<40) (hn:i<n) (aw:Int) (ak ai:List UInt8) (am:Int) (bw:Int) (bk bi:List UInt8) (bm:Int) (rm:Int) (held:List UInt8) (f:Int) (hq:RI ⟨some ⟨aw,ak,ai,am⟩,some ⟨bw,bk,bi,bm⟩,rm,held,f⟩ (31*i)) (kind:Int) (s:List UInt8) (u:Int) (t:List UInt8) (x:Int) (b:Bool) (hk5:kind=6) (hr:rows[i]?=some [.int kind,.str s,.int u,.str t,.int x,.bool b]) (hs:s.length≤140737488351232) (ht:t.length≤140737488351232) (N:St→Prop) (X:Nat→St→Prop) (R:St→Prop)
    (HN: ∀q,RI q (31*(i+1))→ ∀gl st,xt 0 gl st.tm st.hp (tmQ a n c (i+1) q) (hpQ p q) True→N st):
    vc (zal f3.ntmps zai yw W [⟨33,a.getD ⟨0,0,none⟩,6,false,rows⟩]) pl3 0 OBc (tmQ a n c i ⟨some ⟨aw,ak,ai,am⟩,some ⟨bw,bk,bi,bm⟩,rm,held,f⟩) (hpQ p ⟨some ⟨aw,ak,ai,am⟩,some ⟨bw,bk,bi,bm⟩,rm,held,f⟩) N X R:=by
  have hl:=hq.hl
  have hf0:=hq.hf
  have hky:=hq.ky (by omega)
  simp only at hl hf0
  have hI:((i:Nat):Int).toNat=i:=Int.toNat_natCast _
  have hext:x3 [⟨33,a.getD ⟨0,0,none⟩,6,false,rows⟩] ((a.getD ⟨0,0,none⟩).add (((i:Nat):Int).toNat*zc3.sz)) 33 (.agg [.int kind,.str s,.int u,.str t,.int x,.bool b]):=⟨_,.head _,i,_,rfl,by rw [hI];rfl,hr,rfl⟩
  refine za ?_
  refine zdj _ hext ?_
  by_cases hw:su u
  ·have d1:decide (su u)=true:=decide_eq_true hw
   repeat ((conv=>whnf);first|refine zq ?_|refine zg ?_|refine zf ?_|refine zb ?_|refine zr (by first|exact d1|(rw [d1];rfl)) ?_|refine zj (by first|exact d1|(rw [d1];rfl)) ?_|refine zk (by first|exact d1|(rw [d1];rfl)) ?_)
   conv=>whnf
   refine y7 W _ p a n c i hi N X R HN ⟨some ⟨u,kyF u t,ivF u t,0⟩,some ⟨bw,bk,bi,bm⟩,rm,held,f⟩ (zib hq hw t) [0,5,2,3] _ _ ?_
   exact zo
  ·have d1:decide (su u)=false:=decide_eq_false hw
   repeat ((conv=>whnf);first|refine zq ?_|refine zg ?_|refine zf ?_|refine zb ?_|refine zr (by first|exact d1|(rw [d1];rfl)) ?_|refine zj (by first|exact d1|(rw [d1];rfl)) ?_|refine zk (by first|exact d1|(rw [d1];rfl)) ?_)
   conv=>whnf
   refine y7 W _ p a n c i hi N X R HN ⟨some ⟨aw,ak,ai,am⟩,some ⟨bw,bk,bi,bm⟩,rm,held,f⟩ (hq.mono (Nat.le_succ _)) [0,1,2,3] _ _ ?_
   exact zo
set_option maxHeartbeats 16000000 in
theorem zwb (W:World) (rows:List (List At)) (p:Int) (hp0:0≤p∧p≤16384) (a:Option Addr) (n c i:Nat) (hi:i<40) (hn:i<n) (aw:Int) (ak ai:List UInt8) (am:Int) (bw:Int) (bk bi:List UInt8) (bm:Int) (rm:Int) (held:List UInt8) (f:Int) (hq:RI ⟨some ⟨aw,ak,ai,am⟩,some ⟨bw,bk,bi,bm⟩,rm,held,f⟩ (31*i)) (kind:Int) (s:List UInt8) (u:Int) (t:List UInt8) (x:Int) (b:Bool) (hk5:6<kind) (hr:rows[i]?=some [.int kind,.str s,.int u,.str t,.int x,.bool b]) (hs:s.length≤140737488351232) (ht:t.length≤140737488351232) (N:St→Prop) (X:Nat→St→Prop) (R:St→Prop)
    (HN: ∀q,RI q (31*(i+1))→ ∀gl st,xt 0 gl st.tm st.hp (tmQ a n c (i+1) q) (hpQ p q) True→N st):
    vc (zal f3.ntmps zai yw W [⟨33,a.getD ⟨0,0,none⟩,6,false,rows⟩]) pl3 0 OBc (tmQ a n c i ⟨some ⟨aw,ak,ai,am⟩,some ⟨bw,bk,bi,bm⟩,rm,held,f⟩) (hpQ p ⟨some ⟨aw,ak,ai,am⟩,some ⟨bw,bk,bi,bm⟩,rm,held,f⟩) N X R:=by
  have hl:=hq.hl
  have hf0:=hq.hf
  have hky:=hq.ky (by omega)
  simp only at hl hf0
  have hI:((i:Nat):Int).toNat=i:=Int.toNat_natCast _
  have hext:x3 [⟨33,a.getD ⟨0,0,none⟩,6,false,rows⟩] ((a.getD ⟨0,0,none⟩).add (((i:Nat):Int).toNat*zc3.sz)) 33 (.agg [.int kind,.str s,.int u,.str t,.int x,.bool b]):=⟨_,.head _,i,_,rfl,by rw [hI];rfl,hr,rfl⟩
  refine za ?_
  refine zdj _ hext ?_
  have hka:=hky.1 _ _ _ _ rfl
  have hps:za3 aw ak ai am∧0≤p∧p≤16384∧s.length≤140737488351232:=⟨hka,hp0.1,hp0.2,hs⟩
  have hpr:(true=true→za3 aw ak ai am)∧0≤p∧p≤16384∧s.length≤140737488351232:=⟨fun _=>hka,hp0.1,hp0.2,hs⟩
  by_cases hw:yf x∧s.length≤16384
  ·have d1:decide (yf x∧s.length≤16384)=true:=decide_eq_true hw
   have hil:=(zjk (p:=p) (n:=(s.length:Int)) (by omega) (by omega) hp0.1).2
   have hsl:=zil (p:=p) (w:=aw) (key:=ak) (iv:=ai) (m:=am) (kind:=x) (s:=s) hw.2 hp0.1
   have hpl:held.length+(yq p aw ak ai am x s).length<9223372036854775808:=by omega
   have hpc:0≤(0:Int)∧(0:Int)≤262144∧((0:Int)<0→(held.length:Int)≤0)∧held.length+(yq p aw ak ai am x s).length<9223372036854775808:=⟨by decide,by decide,fun h=>absurd h (by decide),hpl⟩
   cases b
   ·repeat ((conv=>whnf);first|refine zq ?_|refine zg ?_|refine zf ?_|refine zb ?_|refine zr (by first|exact d1|(rw [d1];rfl)) ?_|refine zj (by first|exact d1|(rw [d1];rfl)) ?_|refine zk (by first|exact d1|(rw [d1];rfl)) ?_)
    conv=>whnf
    refine y7 W _ p a n c i hi N X R HN ⟨some ⟨aw,ak,ai,am+1⟩,some ⟨bw,bk,bi,bm⟩,rm,held,f⟩ (zq4 hq) [0,1,2,3] _ _ ?_
    exact zo
   ·repeat ((conv=>whnf);first|refine zq ?_|refine zg ?_|refine zf ?_|refine zb ?_|refine zr (by first|exact d1|(rw [d1];rfl)) ?_|refine zj (by first|exact d1|(rw [d1];rfl)) ?_|refine zk (by first|exact d1|(rw [d1];rfl)) ?_)
    conv=>whnf
    rw [zak]
    refine y7 W _ p a n c i hi N X R HN ⟨some ⟨aw,ak,ai,am+1⟩,some ⟨bw,bk,bi,bm⟩,rm,held++yq p aw ak ai am x s,f⟩ (zms hq (by omega)) [0,1,2,3] _ _ ?_
    exact zo
  ·have d1:decide (yf x∧s.length≤16384)=false:=decide_eq_false hw
   have hpl:held.length+([]:List UInt8).length<9223372036854775808:=by show held.length+0<_;omega
   have hpc:0≤(0:Int)∧(0:Int)≤262144∧((0:Int)<0→(held.length:Int)≤0)∧held.length+([]:List UInt8).length<9223372036854775808:=⟨by decide,by decide,fun h=>absurd h (by decide),hpl⟩
   cases b
   ·repeat ((conv=>whnf);first|refine zq ?_|refine zg ?_|refine zf ?_|refine zb ?_|refine zr (by first|exact d1|(rw [d1];rfl)) ?_|refine zj (by first|exact d1|(rw [d1];rfl)) ?_|refine zk (by first|exact d1|(rw [d1];rfl)) ?_)
    conv=>whnf
    refine y7 W _ p a n c i hi N X R HN ⟨some ⟨aw,ak,ai,am⟩,some ⟨bw,bk,bi,bm⟩,rm,held,f⟩ (hq.mono (Nat.le_succ _)) [0,1,2,3] _ _ ?_
    exact zo
   ·repeat ((conv=>whnf);first|refine zq ?_|refine zg ?_|refine zf ?_|refine zb ?_|refine zr (by first|exact d1|(rw [d1];rfl)) ?_|refine zj (by first|exact d1|(rw [d1];rfl)) ?_|refine zk (by first|exact d1|(rw [d1];rfl)) ?_)
    conv=>whnf
    rw [zak]
    refine y7 W _ p a n c i hi N X R HN ⟨some ⟨aw,ak,ai,am⟩,some ⟨bw,bk,bi,bm⟩,rm,held++ [],f⟩ (zb9 hq (by decide)) [0,1,2,3] _ _ ?_
    exact zo
set_option maxHeartbeats 16000000 in
theorem zw2 (W:World) (rows:List (List At)) (p:Int) (hp0:0≤p∧p≤16384) (a:Option Addr) (n c i:Nat) (hi:i<40) (hn:i<n) (rm:Int) (held:List UInt8) (f:Int) (hq:RI ⟨none,none,rm,held,f⟩ (31*i)) (kind:Int) (s:List UInt8) (u:Int) (t:List UInt8) (x:Int) (b:Bool) (hk5:kind<5) (hr:rows[i]?=some [.int kind,.str s,.int u,.str t,.int x,.bool b]) (hs:s.length≤140737488351232) (ht:t.length≤140737488351232) (N:St→Prop) (X:Nat→St→Prop) (R:St→Prop)
    (HN: ∀q,RI q (31*(i+1))→ ∀gl st,xt 0 gl st.tm st.hp (tmQ a n c (i+1) q) (hpQ p q) True→N st):
    vc (zal f3.ntmps zai yw W [⟨33,a.getD ⟨0,0,none⟩,6,false,rows⟩]) pl3 0 OBc (tmQ a n c i ⟨none,none,rm,held,f⟩) (hpQ p ⟨none,none,rm,held,f⟩) N X R:=by
  have hl:=hq.hl
  have hf0:=hq.hf
  have hky:=hq.ky (by omega)
  simp only at hl hf0
  have hI:((i:Nat):Int).toNat=i:=Int.toNat_natCast _
  have hext:x3 [⟨33,a.getD ⟨0,0,none⟩,6,false,rows⟩] ((a.getD ⟨0,0,none⟩).add (((i:Nat):Int).toNat*zc3.sz)) 33 (.agg [.int kind,.str s,.int u,.str t,.int x,.bool b]):=⟨_,.head _,i,_,rfl,by rw [hI];rfl,hr,rfl⟩
  refine za ?_
  refine zdj _ hext ?_
  have hpl:held.length+s.length<9223372036854775808:=by omega
  have hpc:0≤(0:Int)∧(0:Int)≤262144∧((0:Int)<0→(held.length:Int)≤0)∧held.length+s.length<9223372036854775808:=⟨by decide,by decide,fun h=>absurd h (by decide),hpl⟩
  refine za ?_
  rw [zak]
  refine y7 W _ p a n c i hi N X R HN ⟨none,none,rm,held++s,f⟩ (zb9 hq (by omega)) [0,1] _ _ ?_
  exact zo
set_option maxHeartbeats 16000000 in
theorem zub (W:World) (rows:List (List At)) (p:Int) (hp0:0≤p∧p≤16384) (a:Option Addr) (n c i:Nat) (hi:i<40) (hn:i<n) (rm:Int) (held:List UInt8) (f:Int) (hq:RI ⟨none,none,rm,held,f⟩ (31*i)) (kind:Int) (s:List UInt8) (u:Int) (t:List UInt8) (x:Int) (b:Bool) (hk5:kind=5) (hr:rows[i]?=some [.int kind,.str s,.int u,.str t,.int x,.bool b]) (hs:s.length≤140737488351232) (ht:t.length≤140737488351232) (N:St→Prop) (X:Nat→St→Prop) (R:St→Prop)
    (HN: ∀q,RI q (31*(i+1))→ ∀gl st,xt 0 gl st.tm st.hp (tmQ a n c (i+1) q) (hpQ p q) True→N st):
    vc (zal f3.ntmps zai yw W [⟨33,a.getD ⟨0,0,none⟩,6,false,rows⟩]) pl3 0 OBc (tmQ a n c i ⟨none,none,rm,held,f⟩) (hpQ p ⟨none,none,rm,held,f⟩) N X R:=by
  have hl:=hq.hl
  have hf0:=hq.hf
  have hky:=hq.ky (by omega)
  simp only at hl hf0
  have hI:((i:Nat):Int).toNat=i:=Int.toNat_natCast _
  have hext:x3 [⟨33,a.getD ⟨0,0,none⟩,6,false,rows⟩] ((a.getD ⟨0,0,none⟩).add (((i:Nat):Int).toNat*zc3.sz)) 33 (.agg [.int kind,.str s,.int u,.str t,.int x,.bool b]):=⟨_,.head _,i,_,rfl,by rw [hI];rfl,hr,rfl⟩
  refine za ?_
  refine zdj _ hext ?_
  by_cases hw:su u
  ·have d1:decide (su u)=true:=decide_eq_true hw
   repeat ((conv=>whnf);first|refine zq ?_|refine zg ?_|refine zf ?_|refine zb ?_|refine zr (by first|exact d1|(rw [d1];rfl)) ?_|refine zj (by first|exact d1|(rw [d1];rfl)) ?_|refine zk (by first|exact d1|(rw [d1];rfl)) ?_)
   conv=>whnf
   refine y7 W _ p a n c i hi N X R HN ⟨none,some ⟨u,kyF u t,ivF u t,0⟩,0,held,f⟩ (zju hq hw t) [0,3,1] _ _ ?_
   exact zo
  ·have d1:decide (su u)=false:=decide_eq_false hw
   repeat ((conv=>whnf);first|refine zq ?_|refine zg ?_|refine zf ?_|refine zb ?_|refine zr (by first|exact d1|(rw [d1];rfl)) ?_|refine zj (by first|exact d1|(rw [d1];rfl)) ?_|refine zk (by first|exact d1|(rw [d1];rfl)) ?_)
   conv=>whnf
   refine y7 W _ p a n c i hi N X R HN ⟨none,none,rm,held,f⟩ (hq.mono (Nat.le_succ _)) [0,1] _ _ ?_
   exact zo
set_option maxHeartbeats 16000000 in
theorem zqr (W:World) (rows:List (List At)) (p:Int) (hp0:0≤p∧p≤16384) (a:Option Addr) (n c i:Nat) (hi:i<40) (hn:i<n) (rm:Int) (held:List UInt8) (f:Int) (hq:RI ⟨none,none,rm,held,f⟩ (31*i)) (kind:Int) (s:List UInt8) (u:Int) (t:List UInt8) (x:Int) (b:Bool) (hk5:kind=6) (hr:rows[i]?=some [.int kind,.str s,.int u,.str t,.int x,.bool b]) (hs:s.length≤140737488351232) (ht:t.length≤140737488351232) (N:St→Prop) (X:Nat→St→Prop) (R:St→Prop)
    (HN: ∀q,RI q (31*(i+1))→ ∀gl st,xt 0 gl st.tm st.hp (tmQ a n c (i+1) q) (hpQ p q) True→N st):
    vc (zal f3.ntmps zai yw W [⟨33,a.getD ⟨0,0,none⟩,6,false,rows⟩]) pl3 0 OBc (tmQ a n c i ⟨none,none,rm,held,f⟩) (hpQ p ⟨none,none,rm,held,f⟩) N X R:=by
  have hl:=hq.hl
  have hf0:=hq.hf
  have hky:=hq.ky (by omega)
  simp only at hl hf0
  have hI:((i:Nat):Int).toNat=i:=Int.toNat_natCast _
  have hext:x3 [⟨33,a.getD ⟨0,0,none⟩,6,false,rows⟩] ((a.getD ⟨0,0,none⟩).add (((i:Nat):Int).toNat*zc3.sz)) 33 (.agg [.int kind,.str s,.int u,.str t,.int x,.bool b]):=⟨_,.head _,i,_,rfl,by rw [hI];rfl,hr,rfl⟩
  refine za ?_
  refine zdj _ hext ?_
  by_cases hw:su u
  ·have d1:decide (su u)=true:=decide_eq_true hw
   repeat ((conv=>whnf);first|refine zq ?_|refine zg ?_|refine zf ?_|refine zb ?_|refine zr (by first|exact d1|(rw [d1];rfl)) ?_|refine zj (by first|exact d1|(rw [d1];rfl)) ?_|refine zk (by first|exact d1|(rw [d1];rfl)) ?_)
   conv=>whnf
   refine y7 W _ p a n c i hi N X R HN ⟨some ⟨u,kyF u t,ivF u t,0⟩,none,rm,held,f⟩ (zib hq hw t) [0,3,1] _ _ ?_
   exact zo
  ·have d1:decide (su u)=false:=decide_eq_false hw
   repeat ((conv=>whnf);first|refine zq ?_|refine zg ?_|refine zf ?_|refine zb ?_|refine zr (by first|exact d1|(rw [d1];rfl)) ?_|refine zj (by first|exact d1|(rw [d1];rfl)) ?_|refine zk (by first|exact d1|(rw [d1];rfl)) ?_)
   conv=>whnf
   refine y7 W _ p a n c i hi N X R HN ⟨none,none,rm,held,f⟩ (hq.mono (Nat.le_succ _)) [0,1] _ _ ?_
   exact zo
set_option maxHeartbeats 16000000 in
theorem zvo (W:World) (rows:List (List At)) (p:Int) (hp0:0≤p∧p≤16384) (a:Option Addr) (n c i:Nat) (hi:i<40) (hn:i<n) (rm:Int) (held:List UInt8) (f:Int) (hq:RI ⟨none,none,rm,held,f⟩ (31*i)) (kind:Int) (s:List UInt8) (u:Int) (t:List UInt8) (x:Int) (b:Bool) (hk5:6<kind) (hr:rows[i]?=some [.int kind,.str s,.int u,.str t,.int x,.bool b]) (hs:s.length≤140737488351232) (ht:t.length≤140737488351232) (N:St→Prop) (X:Nat→St→Prop) (R:St→Prop)
    (HN: ∀q,RI q (31*(i+1))→ ∀gl st,xt 0 gl st.tm st.hp (tmQ a n c (i+1) q) (hpQ p q) True→N st):
    vc (zal f3.ntmps zai yw W [⟨33,a.getD ⟨0,0,none⟩,6,false,rows⟩]) pl3 0 OBc (tmQ a n c i ⟨none,none,rm,held,f⟩) (hpQ p ⟨none,none,rm,held,f⟩) N X R:=by
  have hl:=hq.hl
  have hf0:=hq.hf
  have hky:=hq.ky (by omega)
  simp only at hl hf0
  have hI:((i:Nat):Int).toNat=i:=Int.toNat_natCast _
  have hext:x3 [⟨33,a.getD ⟨0,0,none⟩,6,false,rows⟩] ((a.getD ⟨0,0,none⟩).add (((i:Nat):Int).toNat*zc3.sz)) 33 (.agg [.int kind,.str s,.int u,.str t,.int x,.bool b]):=⟨_,.head _,i,_,rfl,by rw [hI];rfl,hr,rfl⟩
  refine za ?_
  refine zdj _ hext ?_
  have hpr:(false=true→za3 0 [] [] 0)∧0≤p∧p≤16384∧s.length≤140737488351232:=⟨fun h=>Bool.noConfusion h,hp0.1,hp0.2,hs⟩
  by_cases hw:yf x∧s.length≤16384
  ·have d1:decide (yf x∧s.length≤16384)=true:=decide_eq_true hw
   have hsl:(hdF x (s.length:Int)++s).length=5+s.length:=by rw [List.length_append,zb6]
   have hpl:held.length+(hdF x (s.length:Int)++s).length<9223372036854775808:=by omega
   have hpc:0≤(0:Int)∧(0:Int)≤262144∧((0:Int)<0→(held.length:Int)≤0)∧held.length+(hdF x (s.length:Int)++s).length<9223372036854775808:=⟨by decide,by decide,fun h=>absurd h (by decide),hpl⟩
   cases b
   ·repeat ((conv=>whnf);first|refine zq ?_|refine zg ?_|refine zf ?_|refine zb ?_|refine zr (by first|exact d1|(rw [d1];rfl)) ?_|refine zj (by first|exact d1|(rw [d1];rfl)) ?_|refine zk (by first|exact d1|(rw [d1];rfl)) ?_)
    conv=>whnf
    refine y7 W _ p a n c i hi N X R HN ⟨none,none,rm,held,f⟩ (hq.mono (Nat.le_succ _)) [0,1] _ _ ?_
    exact zo
   ·repeat ((conv=>whnf);first|refine zq ?_|refine zg ?_|refine zf ?_|refine zb ?_|refine zr (by first|exact d1|(rw [d1];rfl)) ?_|refine zj (by first|exact d1|(rw [d1];rfl)) ?_|refine zk (by first|exact d1|(rw [d1];rfl)) ?_)
    conv=>whnf
    rw [zak]
    refine y7 W _ p a n c i hi N X R HN ⟨none,none,rm,held++(hdF x (s.length:Int)++s),f⟩ (zb9 hq (by omega)) [0,1] _ _ ?_
    exact zo
  ·have d1:decide (yf x∧s.length≤16384)=false:=decide_eq_false hw
   have hpl:held.length+([]:List UInt8).length<9223372036854775808:=by show held.length+0<_;omega
   have hpc:0≤(0:Int)∧(0:Int)≤262144∧((0:Int)<0→(held.length:Int)≤0)∧held.length+([]:List UInt8).length<9223372036854775808:=⟨by decide,by decide,fun h=>absurd h (by decide),hpl⟩
   cases b
   ·repeat ((conv=>whnf);first|refine zq ?_|refine zg ?_|refine zf ?_|refine zb ?_|refine zr (by first|exact d1|(rw [d1];rfl)) ?_|refine zj (by first|exact d1|(rw [d1];rfl)) ?_|refine zk (by first|exact d1|(rw [d1];rfl)) ?_)
    conv=>whnf
    refine y7 W _ p a n c i hi N X R HN ⟨none,none,rm,held,f⟩ (hq.mono (Nat.le_succ _)) [0,1] _ _ ?_
    exact zo
   ·repeat ((conv=>whnf);first|refine zq ?_|refine zg ?_|refine zf ?_|refine zb ?_|refine zr (by first|exact d1|(rw [d1];rfl)) ?_|refine zj (by first|exact d1|(rw [d1];rfl)) ?_|refine zk (by first|exact d1|(rw [d1];rfl)) ?_)
    conv=>whnf
    rw [zak]
    refine y7 W _ p a n c i hi N X R HN ⟨none,none,rm,held++ [],f⟩ (zb9 hq (by decide)) [0,1] _ _ ?_
    exact zo
set_option maxHeartbeats 16000000 in
theorem zwf (W:World) (rows:List (List At)) (p:Int) (hp0:0≤p∧p≤16384) (a:Option Addr) (n c i:Nat) (hi:i<40) (hn:i<n) (aw:Int) (ak ai:List UInt8) (am:Int) (rm:Int) (held:List UInt8) (f:Int) (hq:RI ⟨some ⟨aw,ak,ai,am⟩,none,rm,held,f⟩ (31*i)) (kind:Int) (s:List UInt8) (u:Int) (t:List UInt8) (x:Int) (b:Bool) (hk5:kind<5) (hr:rows[i]?=some [.int kind,.str s,.int u,.str t,.int x,.bool b]) (hs:s.length≤140737488351232) (ht:t.length≤140737488351232) (N:St→Prop) (X:Nat→St→Prop) (R:St→Prop)
    (HN: ∀q,RI q (31*(i+1))→ ∀gl st,xt 0 gl st.tm st.hp (tmQ a n c (i+1) q) (hpQ p q) True→N st):
    vc (zal f3.ntmps zai yw W [⟨33,a.getD ⟨0,0,none⟩,6,false,rows⟩]) pl3 0 OBc (tmQ a n c i ⟨some ⟨aw,ak,ai,am⟩,none,rm,held,f⟩) (hpQ p ⟨some ⟨aw,ak,ai,am⟩,none,rm,held,f⟩) N X R:=by
  have hl:=hq.hl
  have hf0:=hq.hf
  have hky:=hq.ky (by omega)
  simp only at hl hf0
  have hI:((i:Nat):Int).toNat=i:=Int.toNat_natCast _
  have hext:x3 [⟨33,a.getD ⟨0,0,none⟩,6,false,rows⟩] ((a.getD ⟨0,0,none⟩).add (((i:Nat):Int).toNat*zc3.sz)) 33 (.agg [.int kind,.str s,.int u,.str t,.int x,.bool b]):=⟨_,.head _,i,_,rfl,by rw [hI];rfl,hr,rfl⟩
  refine za ?_
  refine zdj _ hext ?_
  have hpl:held.length+s.length<9223372036854775808:=by omega
  have hpc:0≤(0:Int)∧(0:Int)≤262144∧((0:Int)<0→(held.length:Int)≤0)∧held.length+s.length<9223372036854775808:=⟨by decide,by decide,fun h=>absurd h (by decide),hpl⟩
  refine za ?_
  rw [zak]
  refine y7 W _ p a n c i hi N X R HN ⟨some ⟨aw,ak,ai,am⟩,none,rm,held++s,f⟩ (zb9 hq (by omega)) [0,1,2] _ _ ?_
  exact zo
set_option maxHeartbeats 16000000 in
theorem ztv (W:World) (rows:List (List At)) (p:Int) (hp0:0≤p∧p≤16384) (a:Option Addr) (n c i:Nat) (hi:i<40) (hn:i<n) (aw:Int) (ak ai:List UInt8) (am:Int) (rm:Int) (held:List UInt8) (f:Int) (hq:RI ⟨some ⟨aw,ak,ai,am⟩,none,rm,held,f⟩ (31*i)) (kind:Int) (s:List UInt8) (u:Int) (t:List UInt8) (x:Int) (b:Bool) (hk5:kind=5) (hr:rows[i]?=some [.int kind,.str s,.int u,.str t,.int x,.bool b]) (hs:s.length≤140737488351232) (ht:t.length≤140737488351232) (N:St→Prop) (X:Nat→St→Prop) (R:St→Prop)
    (HN: ∀q,RI q (31*(i+1))→ ∀gl st,xt 0 gl st.tm st.hp (tmQ a n c (i+1) q) (hpQ p q) True→N st):
    vc (zal f3.ntmps zai yw W [⟨33,a.getD ⟨0,0,none⟩,6,false,rows⟩]) pl3 0 OBc (tmQ a n c i ⟨some ⟨aw,ak,ai,am⟩,none,rm,held,f⟩) (hpQ p ⟨some ⟨aw,ak,ai,am⟩,none,rm,held,f⟩) N X R:=by
  have hl:=hq.hl
  have hf0:=hq.hf
  have hky:=hq.ky (by omega)
  simp only at hl hf0
  have hI:((i:Nat):Int).toNat=i:=Int.toNat_natCast _
  have hext:x3 [⟨33,a.getD ⟨0,0,none⟩,6,false,rows⟩] ((a.getD ⟨0,0,none⟩).add (((i:Nat):Int).toNat*zc3.sz)) 33 (.agg [.int kind,.str s,.int u,.str t,.int x,.bool b]):=⟨_,.head _,i,_,rfl,by rw [hI];rfl,hr,rfl⟩
  refine za ?_
  refine zdj _ hext ?_
  by_cases hw:su u
  ·have d1:decide (su u)=true:=decide_eq_true hw
   repeat ((conv=>whnf);first|refine zq ?_|refine zg ?_|refine zf ?_|refine zb ?_|refine zr (by first|exact d1|(rw [d1];rfl)) ?_|refine zj (by first|exact d1|(rw [d1];rfl)) ?_|refine zk (by first|exact d1|(rw [d1];rfl)) ?_)
   conv=>whnf
   refine y7 W _ p a n c i hi N X R HN ⟨some ⟨aw,ak,ai,am⟩,some ⟨u,kyF u t,ivF u t,0⟩,0,held,f⟩ (zju hq hw t) [0,1,4,2] _ _ ?_
   exact zo
  ·have d1:decide (su u)=false:=decide_eq_false hw
   repeat ((conv=>whnf);first|refine zq ?_|refine zg ?_|refine zf ?_|refine zb ?_|refine zr (by first|exact d1|(rw [d1];rfl)) ?_|refine zj (by first|exact d1|(rw [d1];rfl)) ?_|refine zk (by first|exact d1|(rw [d1];rfl)) ?_)
   conv=>whnf
   refine y7 W _ p a n c i hi N X R HN ⟨some ⟨aw,ak,ai,am⟩,none,rm,held,f⟩ (hq.mono (Nat.le_succ _)) [0,1,2] _ _ ?_
   exact zo
set_option maxHeartbeats 16000000 in
theorem zqm (W:World) (rows:List (List At)) (p:Int) (hp0:0≤p∧p≤16384) (a:Option Addr) (n c i:Nat) (hi:i<40) (hn:i<n) (aw:Int) (ak ai:List UInt8) (am:Int) (rm:Int) (held:List UInt8) (f:Int) (hq:RI ⟨some ⟨aw,ak,ai,am⟩,none,rm,held,f⟩ (31*i)) (kind:Int) (s:List UInt8) (u:Int) (t:List UInt8) (x:Int) (b:Bool) (hk5:kind=6) (hr:rows[i]?=some [.int kind,.str s,.int u,.str t,.int x,.bool b]) (hs:s.length≤140737488351232) (ht:t.length≤140737488351232) (N:St→Prop) (X:Nat→St→Prop) (R:St→Prop)
    (HN: ∀q,RI q (31*(i+1))→ ∀gl st,xt 0 gl st.tm st.hp (tmQ a n c (i+1) q) (hpQ p q) True→N st):
    vc (zal f3.ntmps zai yw W [⟨33,a.getD ⟨0,0,none⟩,6,false,rows⟩]) pl3 0 OBc (tmQ a n c i ⟨some ⟨aw,ak,ai,am⟩,none,rm,held,f⟩) (hpQ p ⟨some ⟨aw,ak,ai,am⟩,none,rm,held,f⟩) N X R:=by
  have hl:=hq.hl
  have hf0:=hq.hf
  have hky:=hq.ky (by omega)
  simp only at hl hf0
  have hI:((i:Nat):Int).toNat=i:=Int.toNat_natCast _
  have hext:x3 [⟨33,a.getD ⟨0,0,none⟩,6,false,rows⟩] ((a.getD ⟨0,0,none⟩).add (((i:Nat):Int).toNat*zc3.sz)) 33 (.agg [.int kind,.str s,.int u,.str t,.int x,.bool b]):=⟨_,.head _,i,_,rfl,by rw [hI];rfl,hr,rfl⟩
  refine za ?_
  refine zdj _ hext ?_
  by_cases hw:su u
  ·have d1:decide (su u)=true:=decide_eq_true hw
   repeat ((conv=>whnf);first|refine zq ?_|refine zg ?_|refine zf ?_|refine zb ?_|refine zr (by first|exact d1|(rw [d1];rfl)) ?_|refine zj (by first|exact d1|(rw [d1];rfl)) ?_|refine zk (by first|exact d1|(rw [d1];rfl)) ?_)
   conv=>whnf
   refine y7 W _ p a n c i hi N X R HN ⟨some ⟨u,kyF u t,ivF u t,0⟩,none,rm,held,f⟩ (zib hq hw t) [0,4,2] _ _ ?_
   exact zo
  ·have d1:decide (su u)=false:=decide_eq_false hw
   repeat ((conv=>whnf);first|refine zq ?_|refine zg ?_|refine zf ?_|refine zb ?_|refine zr (by first|exact d1|(rw [d1];rfl)) ?_|refine zj (by first|exact d1|(rw [d1];rfl)) ?_|refine zk (by first|exact d1|(rw [d1];rfl)) ?_)
   conv=>whnf
   refine y7 W _ p a n c i hi N X R HN ⟨some ⟨aw,ak,ai,am⟩,none,rm,held,f⟩ (hq.mono (Nat.le_succ _)) [0,1,2] _ _ ?_
   exact zo
set_option maxHeartbeats 16000000 in
theorem zu3 (W:World) (rows:List (List At)) (p:Int) (hp0:0≤p∧p≤16384) (a:Option Addr) (n c i:Nat) (hi:i<40) (hn:i<n) (aw:Int) (ak ai:List UInt8) (am:Int) (rm:Int) (held:List UInt8) (f:Int) (hq:RI ⟨some ⟨aw,ak,ai,am⟩,none,rm,held,f⟩ (31*i)) (kind:Int) (s:List UInt8) (u:Int) (t:List UInt8) (x:Int) (b:Bool) (hk5:6<kind) (hr:rows[i]?=some [.int kind,.str s,.int u,.str t,.int x,.bool b]) (hs:s.length≤140737488351232) (ht:t.length≤140737488351232) (N:St→Prop) (X:Nat→St→Prop) (R:St→Prop)
    (HN: ∀q,RI q (31*(i+1))→ ∀gl st,xt 0 gl st.tm st.hp (tmQ a n c (i+1) q) (hpQ p q) True→N st):
    vc (zal f3.ntmps zai yw W [⟨33,a.getD ⟨0,0,none⟩,6,false,rows⟩]) pl3 0 OBc (tmQ a n c i ⟨some ⟨aw,ak,ai,am⟩,none,rm,held,f⟩) (hpQ p ⟨some ⟨aw,ak,ai,am⟩,none,rm,held,f⟩) N X R:=by
  have hl:=hq.hl
  have hf0:=hq.hf
  have hky:=hq.ky (by omega)
  simp only at hl hf0
  have hI:((i:Nat):Int).toNat=i:=Int.toNat_natCast _
  have hext:x3 [⟨33,a.getD ⟨0,0,none⟩,6,false,rows⟩] ((a.getD ⟨0,0,none⟩).add (((i:Nat):Int).toNat*zc3.sz)) 33 (.agg [.int kind,.str s,.int u,.str t,.int x,.bool b]):=⟨_,.head _,i,_,rfl,by rw [hI];rfl,hr,rfl⟩
  refine za ?_
  refine zdj _ hext ?_
  have hka:=hky.1 _ _ _ _ rfl
  have hps:za3 aw ak ai am∧0≤p∧p≤16384∧s.length≤140737488351232:=⟨hka,hp0.1,hp0.2,hs⟩
  have hpr:(true=true→za3 aw ak ai am)∧0≤p∧p≤16384∧s.length≤140737488351232:=⟨fun _=>hka,hp0.1,hp0.2,hs⟩
  by_cases hw:yf x∧s.length≤16384
  ·have d1:decide (yf x∧s.length≤16384)=true:=decide_eq_true hw
   have hil:=(zjk (p:=p) (n:=(s.length:Int)) (by omega) (by omega) hp0.1).2
   have hsl:=zil (p:=p) (w:=aw) (key:=ak) (iv:=ai) (m:=am) (kind:=x) (s:=s) hw.2 hp0.1
   have hpl:held.length+(yq p aw ak ai am x s).length<9223372036854775808:=by omega
   have hpc:0≤(0:Int)∧(0:Int)≤262144∧((0:Int)<0→(held.length:Int)≤0)∧held.length+(yq p aw ak ai am x s).length<9223372036854775808:=⟨by decide,by decide,fun h=>absurd h (by decide),hpl⟩
   cases b
   ·repeat ((conv=>whnf);first|refine zq ?_|refine zg ?_|refine zf ?_|refine zb ?_|refine zr (by first|exact d1|(rw [d1];rfl)) ?_|refine zj (by first|exact d1|(rw [d1];rfl)) ?_|refine zk (by first|exact d1|(rw [d1];rfl)) ?_)
    conv=>whnf
    refine y7 W _ p a n c i hi N X R HN ⟨some ⟨aw,ak,ai,am+1⟩,none,rm,held,f⟩ (zq4 hq) [0,1,2] _ _ ?_
    exact zo
   ·repeat ((conv=>whnf);first|refine zq ?_|refine zg ?_|refine zf ?_|refine zb ?_|refine zr (by first|exact d1|(rw [d1];rfl)) ?_|refine zj (by first|exact d1|(rw [d1];rfl)) ?_|refine zk (by first|exact d1|(rw [d1];rfl)) ?_)
    conv=>whnf
    rw [zak]
    refine y7 W _ p a n c i hi N X R HN ⟨some ⟨aw,ak,ai,am+1⟩,none,rm,held++yq p aw ak ai am x s,f⟩ (zms hq (by omega)) [0,1,2] _ _ ?_
    exact zo
  ·have d1:decide (yf x∧s.length≤16384)=false:=decide_eq_false hw
   have hpl:held.length+([]:List UInt8).length<9223372036854775808:=by show held.length+0<_;omega
   have hpc:0≤(0:Int)∧(0:Int)≤262144∧((0:Int)<0→(held.length:Int)≤0)∧held.length+([]:List UInt8).length<9223372036854775808:=⟨by decide,by decide,fun h=>absurd h (by decide),hpl⟩
   cases b
   ·repeat ((conv=>whnf);first|refine zq ?_|refine zg ?_|refine zf ?_|refine zb ?_|refine zr (by first|exact d1|(rw [d1];rfl)) ?_|refine zj (by first|exact d1|(rw [d1];rfl)) ?_|refine zk (by first|exact d1|(rw [d1];rfl)) ?_)
    conv=>whnf
    refine y7 W _ p a n c i hi N X R HN ⟨some ⟨aw,ak,ai,am⟩,none,rm,held,f⟩ (hq.mono (Nat.le_succ _)) [0,1,2] _ _ ?_
    exact zo
   ·repeat ((conv=>whnf);first|refine zq ?_|refine zg ?_|refine zf ?_|refine zb ?_|refine zr (by first|exact d1|(rw [d1];rfl)) ?_|refine zj (by first|exact d1|(rw [d1];rfl)) ?_|refine zk (by first|exact d1|(rw [d1];rfl)) ?_)
    conv=>whnf
    rw [zak]
    refine y7 W _ p a n c i hi N X R HN ⟨some ⟨aw,ak,ai,am⟩,none,rm,held++ [],f⟩ (zb9 hq (by decide)) [0,1,2] _ _ ?_
    exact zo
set_option maxHeartbeats 16000000 in
theorem zu6 (W:World) (rows:List (List At)) (p:Int) (hp0:0≤p∧p≤16384) (a:Option Addr) (n c i:Nat) (hi:i<40) (hn:i<n) (bw:Int) (bk bi:List UInt8) (bm:Int) (rm:Int) (held:List UInt8) (f:Int) (hq:RI ⟨none,some ⟨bw,bk,bi,bm⟩,rm,held,f⟩ (31*i)) (kind:Int) (s:List UInt8) (u:Int) (t:List UInt8) (x:Int) (b:Bool) (hk5:kind<5) (hr:rows[i]?=some [.int kind,.str s,.int u,.str t,.int x,.bool b]) (hs:s.length≤140737488351232) (ht:t.length≤140737488351232) (N:St→Prop) (X:Nat→St→Prop) (R:St→Prop)
    (HN: ∀q,RI q (31*(i+1))→ ∀gl st,xt 0 gl st.tm st.hp (tmQ a n c (i+1) q) (hpQ p q) True→N st):
    vc (zal f3.ntmps zai yw W [⟨33,a.getD ⟨0,0,none⟩,6,false,rows⟩]) pl3 0 OBc (tmQ a n c i ⟨none,some ⟨bw,bk,bi,bm⟩,rm,held,f⟩) (hpQ p ⟨none,some ⟨bw,bk,bi,bm⟩,rm,held,f⟩) N X R:=by
  have hl:=hq.hl
  have hf0:=hq.hf
  have hky:=hq.ky (by omega)
  simp only at hl hf0
  have hI:((i:Nat):Int).toNat=i:=Int.toNat_natCast _
  have hext:x3 [⟨33,a.getD ⟨0,0,none⟩,6,false,rows⟩] ((a.getD ⟨0,0,none⟩).add (((i:Nat):Int).toNat*zc3.sz)) 33 (.agg [.int kind,.str s,.int u,.str t,.int x,.bool b]):=⟨_,.head _,i,_,rfl,by rw [hI];rfl,hr,rfl⟩
  refine za ?_
  refine zdj _ hext ?_
  have hpl:held.length+s.length<9223372036854775808:=by omega
  have hpc:0≤(0:Int)∧(0:Int)≤262144∧((0:Int)<0→(held.length:Int)≤0)∧held.length+s.length<9223372036854775808:=⟨by decide,by decide,fun h=>absurd h (by decide),hpl⟩
  refine za ?_
  rw [zak]
  refine y7 W _ p a n c i hi N X R HN ⟨none,some ⟨bw,bk,bi,bm⟩,rm,held++s,f⟩ (zb9 hq (by omega)) [0,1,2] _ _ ?_
  exact zo
set_option maxHeartbeats 16000000 in
theorem ztd (W:World) (rows:List (List At)) (p:Int) (hp0:0≤p∧p≤16384) (a:Option Addr) (n c i:Nat) (hi:i<40) (hn:i<n) (bw:Int) (bk bi:List UInt8) (bm:Int) (rm:Int) (held:List UInt8) (f:Int) (hq:RI ⟨none,some ⟨bw,bk,bi,bm⟩,rm,held,f⟩ (31*i)) (kind:Int) (s:List UInt8) (u:Int) (t:List UInt8) (x:Int) (b:Bool) (hk5:kind=5) (hr:rows[i]?=some [.int kind,.str s,.int u,.str t,.int x,.bool b]) (hs:s.length≤140737488351232) (ht:t.length≤140737488351232) (N:St→Prop) (X:Nat→St→Prop) (R:St→Prop)
    (HN: ∀q,RI q (31*(i+1))→ ∀gl st,xt 0 gl st.tm st.hp (tmQ a n c (i+1) q) (hpQ p q) True→N st):
    vc (zal f3.ntmps zai yw W [⟨33,a.getD ⟨0,0,none⟩,6,false,rows⟩]) pl3 0 OBc (tmQ a n c i ⟨none,some ⟨bw,bk,bi,bm⟩,rm,held,f⟩) (hpQ p ⟨none,some ⟨bw,bk,bi,bm⟩,rm,held,f⟩) N X R:=by
  have hl:=hq.hl
  have hf0:=hq.hf
  have hky:=hq.ky (by omega)
  simp only at hl hf0
  have hI:((i:Nat):Int).toNat=i:=Int.toNat_natCast _
  have hext:x3 [⟨33,a.getD ⟨0,0,none⟩,6,false,rows⟩] ((a.getD ⟨0,0,none⟩).add (((i:Nat):Int).toNat*zc3.sz)) 33 (.agg [.int kind,.str s,.int u,.str t,.int x,.bool b]):=⟨_,.head _,i,_,rfl,by rw [hI];rfl,hr,rfl⟩
  refine za ?_
  refine zdj _ hext ?_
  by_cases hw:su u
  ·have d1:decide (su u)=true:=decide_eq_true hw
   repeat ((conv=>whnf);first|refine zq ?_|refine zg ?_|refine zf ?_|refine zb ?_|refine zr (by first|exact d1|(rw [d1];rfl)) ?_|refine zj (by first|exact d1|(rw [d1];rfl)) ?_|refine zk (by first|exact d1|(rw [d1];rfl)) ?_)
   conv=>whnf
   refine y7 W _ p a n c i hi N X R HN ⟨none,some ⟨u,kyF u t,ivF u t,0⟩,0,held,f⟩ (zju hq hw t) [0,4,2] _ _ ?_
   exact zo
  ·have d1:decide (su u)=false:=decide_eq_false hw
   repeat ((conv=>whnf);first|refine zq ?_|refine zg ?_|refine zf ?_|refine zb ?_|refine zr (by first|exact d1|(rw [d1];rfl)) ?_|refine zj (by first|exact d1|(rw [d1];rfl)) ?_|refine zk (by first|exact d1|(rw [d1];rfl)) ?_)
   conv=>whnf
   refine y7 W _ p a n c i hi N X R HN ⟨none,some ⟨bw,bk,bi,bm⟩,rm,held,f⟩ (hq.mono (Nat.le_succ _)) [0,1,2] _ _ ?_
   exact zo
set_option maxHeartbeats 16000000 in
theorem zqn (W:World) (rows:List (List At)) (p:Int) (hp0:0≤p∧p≤16384) (a:Option Addr) (n c i:Nat) (hi:i<40) (hn:i<n) (bw:Int) (bk bi:List UInt8) (bm:Int) (rm:Int) (held:List UInt8) (f:Int) (hq:RI ⟨none,some ⟨bw,bk,bi,bm⟩,rm,held,f⟩ (31*i)) (kind:Int) (s:List UInt8) (u:Int) (t:List UInt8) (x:Int) (b:Bool) (hk5:kind=6) (hr:rows[i]?=some [.int kind,.str s,.int u,.str t,.int x,.bool b]) (hs:s.length≤140737488351232) (ht:t.length≤140737488351232) (N:St→Prop) (X:Nat→St→Prop) (R:St→Prop)
    (HN: ∀q,RI q (31*(i+1))→ ∀gl st,xt 0 gl st.tm st.hp (tmQ a n c (i+1) q) (hpQ p q) True→N st):
    vc (zal f3.ntmps zai yw W [⟨33,a.getD ⟨0,0,none⟩,6,false,rows⟩]) pl3 0 OBc (tmQ a n c i ⟨none,some ⟨bw,bk,bi,bm⟩,rm,held,f⟩) (hpQ p ⟨none,some ⟨bw,bk,bi,bm⟩,rm,held,f⟩) N X R:=by
  have hl:=hq.hl
  have hf0:=hq.hf
  have hky:=hq.ky (by omega)
  simp only at hl hf0
  have hI:((i:Nat):Int).toNat=i:=Int.toNat_natCast _
  have hext:x3 [⟨33,a.getD ⟨0,0,none⟩,6,false,rows⟩] ((a.getD ⟨0,0,none⟩).add (((i:Nat):Int).toNat*zc3.sz)) 33 (.agg [.int kind,.str s,.int u,.str t,.int x,.bool b]):=⟨_,.head _,i,_,rfl,by rw [hI];rfl,hr,rfl⟩
  refine za ?_
  refine zdj _ hext ?_
  by_cases hw:su u
  ·have d1:decide (su u)=true:=decide_eq_true hw
   repeat ((conv=>whnf);first|refine zq ?_|refine zg ?_|refine zf ?_|refine zb ?_|refine zr (by first|exact d1|(rw [d1];rfl)) ?_|refine zj (by first|exact d1|(rw [d1];rfl)) ?_|refine zk (by first|exact d1|(rw [d1];rfl)) ?_)
   conv=>whnf
   refine y7 W _ p a n c i hi N X R HN ⟨some ⟨u,kyF u t,ivF u t,0⟩,some ⟨bw,bk,bi,bm⟩,rm,held,f⟩ (zib hq hw t) [0,4,1,2] _ _ ?_
   exact zo
  ·have d1:decide (su u)=false:=decide_eq_false hw
   repeat ((conv=>whnf);first|refine zq ?_|refine zg ?_|refine zf ?_|refine zb ?_|refine zr (by first|exact d1|(rw [d1];rfl)) ?_|refine zj (by first|exact d1|(rw [d1];rfl)) ?_|refine zk (by first|exact d1|(rw [d1];rfl)) ?_)
   conv=>whnf
   refine y7 W _ p a n c i hi N X R HN ⟨none,some ⟨bw,bk,bi,bm⟩,rm,held,f⟩ (hq.mono (Nat.le_succ _)) [0,1,2] _ _ ?_
   exact zo
set_option maxHeartbeats 16000000 in
theorem zva (W:World) (rows:List (List At)) (p:Int) (hp0:0≤p∧p≤16384) (a:Option Addr) (n c i:Nat) (hi:i<40) (hn:i<n) (bw:Int) (bk bi:List UInt8) (bm:Int) (rm:Int) (held:List UInt8) (f:Int) (hq:RI ⟨none,some ⟨bw,bk,bi,bm⟩,rm,held,f⟩ (31*i)) (kind:Int) (s:List UInt8) (u:Int) (t:List UInt8) (x:Int) (b:Bool) (hk5:6<kind) (hr:rows[i]?=some [.int kind,.str s,.int u,.str t,.int x,.bool b]) (hs:s.length≤140737488351232) (ht:t.length≤140737488351232) (N:St→Prop) (X:Nat→St→Prop) (R:St→Prop)
    (HN: ∀q,RI q (31*(i+1))→ ∀gl st,xt 0 gl st.tm st.hp (tmQ a n c (i+1) q) (hpQ p q) True→N st):
    vc (zal f3.ntmps zai yw W [⟨33,a.getD ⟨0,0,none⟩,6,false,rows⟩]) pl3 0 OBc (tmQ a n c i ⟨none,some ⟨bw,bk,bi,bm⟩,rm,held,f⟩) (hpQ p ⟨none,some ⟨bw,bk,bi,bm⟩,rm,held,f⟩) N X R:=by
  have hl:=hq.hl
  have hf0:=hq.hf
  have hky:=hq.ky (by omega)
  simp only at hl hf0
  have hI:((i:Nat):Int).toNat=i:=Int.toNat_natCast _
  have hext:x3 [⟨33,a.getD ⟨0,0,none⟩,6,false,rows⟩] ((a.getD ⟨0,0,none⟩).add (((i:Nat):Int).toNat*zc3.sz)) 33 (.agg [.int kind,.str s,.int u,.str t,.int x,.bool b]):=⟨_,.head _,i,_,rfl,by rw [hI];rfl,hr,rfl⟩
  refine za ?_
  refine zdj _ hext ?_
  have hpr:(false=true→za3 0 [] [] 0)∧0≤p∧p≤16384∧s.length≤140737488351232:=⟨fun h=>Bool.noConfusion h,hp0.1,hp0.2,hs⟩
  by_cases hw:yf x∧s.length≤16384
  ·have d1:decide (yf x∧s.length≤16384)=true:=decide_eq_true hw
   have hsl:(hdF x (s.length:Int)++s).length=5+s.length:=by rw [List.length_append,zb6]
   have hpl:held.length+(hdF x (s.length:Int)++s).length<9223372036854775808:=by omega
   have hpc:0≤(0:Int)∧(0:Int)≤262144∧((0:Int)<0→(held.length:Int)≤0)∧held.length+(hdF x (s.length:Int)++s).length<9223372036854775808:=⟨by decide,by decide,fun h=>absurd h (by decide),hpl⟩
   cases b
   ·repeat ((conv=>whnf);first|refine zq ?_|refine zg ?_|refine zf ?_|refine zb ?_|refine zr (by first|exact d1|(rw [d1];rfl)) ?_|refine zj (by first|exact d1|(rw [d1];rfl)) ?_|refine zk (by first|exact d1|(rw [d1];rfl)) ?_)
    conv=>whnf
    refine y7 W _ p a n c i hi N X R HN ⟨none,some ⟨bw,bk,bi,bm⟩,rm,held,f⟩ (hq.mono (Nat.le_succ _)) [0,1,2] _ _ ?_
    exact zo
   ·repeat ((conv=>whnf);first|refine zq ?_|refine zg ?_|refine zf ?_|refine zb ?_|refine zr (by first|exact d1|(rw [d1];rfl)) ?_|refine zj (by first|exact d1|(rw [d1];rfl)) ?_|refine zk (by first|exact d1|(rw [d1];rfl)) ?_)
    conv=>whnf
    rw [zak]
    refine y7 W _ p a n c i hi N X R HN ⟨none,some ⟨bw,bk,bi,bm⟩,rm,held++(hdF x (s.length:Int)++s),f⟩ (zb9 hq (by omega)) [0,1,2] _ _ ?_
    exact zo
  ·have d1:decide (yf x∧s.length≤16384)=false:=decide_eq_false hw
   have hpl:held.length+([]:List UInt8).length<9223372036854775808:=by show held.length+0<_;omega
   have hpc:0≤(0:Int)∧(0:Int)≤262144∧((0:Int)<0→(held.length:Int)≤0)∧held.length+([]:List UInt8).length<9223372036854775808:=⟨by decide,by decide,fun h=>absurd h (by decide),hpl⟩
   cases b
   ·repeat ((conv=>whnf);first|refine zq ?_|refine zg ?_|refine zf ?_|refine zb ?_|refine zr (by first|exact d1|(rw [d1];rfl)) ?_|refine zj (by first|exact d1|(rw [d1];rfl)) ?_|refine zk (by first|exact d1|(rw [d1];rfl)) ?_)
    conv=>whnf
    refine y7 W _ p a n c i hi N X R HN ⟨none,some ⟨bw,bk,bi,bm⟩,rm,held,f⟩ (hq.mono (Nat.le_succ _)) [0,1,2] _ _ ?_
    exact zo
   ·repeat ((conv=>whnf);first|refine zq ?_|refine zg ?_|refine zf ?_|refine zb ?_|refine zr (by first|exact d1|(rw [d1];rfl)) ?_|refine zj (by first|exact d1|(rw [d1];rfl)) ?_|refine zk (by first|exact d1|(rw [d1];rfl)) ?_)
    conv=>whnf
    rw [zak]
    refine y7 W _ p a n c i hi N X R HN ⟨none,some ⟨bw,bk,bi,bm⟩,rm,held++ [],f⟩ (zb9 hq (by decide)) [0,1,2] _ _ ?_
    exact zo
end Go.Sym.Z
