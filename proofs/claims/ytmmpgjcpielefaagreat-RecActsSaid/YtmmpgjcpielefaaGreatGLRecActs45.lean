/-
  Contracts of functions of the program, each said of symbolic values, and plain laws; no condition beyond each statement's own.
-/
import Derived.Test.YtmmpgjcpielefaaGreatGLRecActs44
set_option linter.unusedSimpArgs false
set_option linter.unusedVariables false
namespace Go.Sym.Z
open Go Go.Proofs.Tryz Go.Sym.Lp Go.Sym.Cha Go.Sym.Sha Go.Sym.Hk Go.Sym.Gcm
set_option maxRecDepth 100000
structure OQ (n:Nat) where
  i:Nat
  hn:i≤n
  h40:i≤40
  q:RQ
  hq:RI q (31*i)
theorem yaw:RI ⟨none,none,0,[], -1⟩ 0:=⟨fun _ h=>(by cases h),fun _ h=>(by cases h),⟨Int.le_refl _,Int.le_refl _⟩,fun _ _ h=>(by cases h),.inl rfl,Nat.zero_le _⟩
theorem ybj (W:World) (rows:List (List At)) (p:Int) (hp0:0≤p∧p≤16384) (a:Option Addr) (n c i:Nat) (hi:i<40) (hn:i<n) (q:RQ) (hq:RI q (31*i)) (kind:Int) (s:List UInt8) (u:Int) (t:List UInt8) (x:Int) (b:Bool) (hr:rows[i]?=some [.int kind,.str s,.int u,.str t,.int x,.bool b]) (hs:s.length≤140737488351232) (ht:t.length≤140737488351232) (N:St→Prop) (X:Nat→St→Prop) (R:St→Prop)
    (HN: ∀q,RI q (31*(i+1))→ ∀gl st,xt 0 gl st.tm st.hp (tmQ a n c (i+1) q) (hpQ p q) True→N st):
    vc (zal f3.ntmps zai yw W [⟨33,a.getD ⟨0,0,none⟩,6,false,rows⟩]) pl3 0 OBc (tmQ a n c i q) (hpQ p q) N X R:=by
  have h4:kind<5∨kind=5∨kind=6∨6<kind:=by omega
  obtain ⟨W',R',rm,held,f⟩:=q
  cases W' with
  |none=>cases R' with
   |none=>
    rcases h4 with h|h|h|h
    ·exact zw2 W rows p hp0 a n c i hi hn rm held f hq kind s u t x b h hr hs ht N X R HN
    ·exact zub W rows p hp0 a n c i hi hn rm held f hq kind s u t x b h hr hs ht N X R HN
    ·exact zqr W rows p hp0 a n c i hi hn rm held f hq kind s u t x b h hr hs ht N X R HN
    ·exact zvo W rows p hp0 a n c i hi hn rm held f hq kind s u t x b h hr hs ht N X R HN
   |some y=>
    rcases h4 with h|h|h|h
    ·exact zu6 W rows p hp0 a n c i hi hn y.w y.key y.iv y.m rm held f hq kind s u t x b h hr hs ht N X R HN
    ·exact ztd W rows p hp0 a n c i hi hn y.w y.key y.iv y.m rm held f hq kind s u t x b h hr hs ht N X R HN
    ·exact zqn W rows p hp0 a n c i hi hn y.w y.key y.iv y.m rm held f hq kind s u t x b h hr hs ht N X R HN
    ·exact zva W rows p hp0 a n c i hi hn y.w y.key y.iv y.m rm held f hq kind s u t x b h hr hs ht N X R HN
  |some z=>cases R' with
   |none=>
    rcases h4 with h|h|h|h
    ·exact zwf W rows p hp0 a n c i hi hn z.w z.key z.iv z.m rm held f hq kind s u t x b h hr hs ht N X R HN
    ·exact ztv W rows p hp0 a n c i hi hn z.w z.key z.iv z.m rm held f hq kind s u t x b h hr hs ht N X R HN
    ·exact zqm W rows p hp0 a n c i hi hn z.w z.key z.iv z.m rm held f hq kind s u t x b h hr hs ht N X R HN
    ·exact zu3 W rows p hp0 a n c i hi hn z.w z.key z.iv z.m rm held f hq kind s u t x b h hr hs ht N X R HN
   |some y=>
    rcases h4 with h|h|h|h
    ·exact zwy W rows p hp0 a n c i hi hn z.w z.key z.iv z.m y.w y.key y.iv y.m rm held f hq kind s u t x b h hr hs ht N X R HN
    ·exact ztk W rows p hp0 a n c i hi hn z.w z.key z.iv z.m y.w y.key y.iv y.m rm held f hq kind s u t x b h hr hs ht N X R HN
    ·exact zqh W rows p hp0 a n c i hi hn z.w z.key z.iv z.m y.w y.key y.iv y.m rm held f hq kind s u t x b h hr hs ht N X R HN
    ·exact zwb W rows p hp0 a n c i hi hn z.w z.key z.iv z.m y.w y.key y.iv y.m rm held f hq kind s u t x b h hr hs ht N X R HN
noncomputable def RfV (Γ:Ctx) (res:List ResultVar) (K:SV→List Blk→Prop):St→Prop:=fun st=>match st with|⟨tm',hp'⟩=>zt7 Γ tm' hp' res fun vs=>z3r vs fun r=>zci 0 r hp' K
noncomputable def XfV (Γ:Ctx) (D:List (Nat×List PStep)) (res:List ResultVar) (K:SV→List Blk→Prop) (cc:Code):Nat→St→Prop:=fun i st=>match Nat.beq i 0 with
  |true=>(match st with|⟨tm',hp'⟩=>vc Γ D 0 cc tm' hp' (RfV Γ res K) (fun _ _=>False) (RfV Γ res K))
  |false=>False
def NfV (a:Option Addr) (n c:Nat) (pad:Int) (i:Nat):St→Prop:=fun st'=> ∃(j:OQ n) (gl:List Nat),40-j.i<40-i∧xt 0 gl st'.tm st'.hp (tmQ a n c j.i j.q) (hpQ pad j.q) True
attribute [local irreducible] za2 exF kyF ivF xi zau y0 inL ncF lnz iA hA hN hK yq zao hO hP hR hT iK yg hdF zox
set_option maxHeartbeats 8000000 in
theorem zxv (W:World) (pad:Int) (a:Option Addr) (n c:Nat) (rows:List (List At)) (hn:rows.length=n) (hb:n*64≤140737488351232) (hrows: ∀r∈rows,∃k s u t x b,r= [.int k,.str s,.int u,.str t,.int x,.bool b]∧s.length≤140737488351232∧t.length≤140737488351232):
    zxt (zal f3.ntmps zai yw W [⟨33,a.getD ⟨0,0,none⟩,6,false,rows⟩]) pl3 (zp2 f3) f3.results.toList [.int pad,.xsl a n c] [] (fun r _=>r= .bool true):=by
  by_cases hp:0≤pad∧pad≤16384
  ·have dp:decide (0≤pad∧pad≤16384)=true:=decide_eq_true hp
   have dr:decide (zsp pad 0)=true:=decide_eq_true ⟨hp,.inl rfl⟩
   repeat ((conv=>whnf);first|refine zq ?_|refine zg ?_|refine zf ?_|refine zb ?_|refine zr (by first|exact dp|exact dr) ?_|refine zj (by first|exact dp|exact dr) ?_|refine zk (by first|exact dp|exact dr) ?_)
   conv=>whnf
   refine zt (OQ n) (fun s=>⟨tmQ a n c s.i s.q,hpQ pad s.q⟩) (fun s=>40-s.i) ⟨0,Nat.zero_le _,Nat.zero_le _,⟨none,none,0,[], -1⟩,yaw⟩ [0,1] ?_ ?_
   ·exact zo
   ·intro s
    obtain ⟨i,hin,hi40,q,hq⟩:=s
    by_cases hh:i<n∧i<40
    ·obtain ⟨r,hr⟩: ∃r,rows[i]?=some r:=⟨rows[i]'(by omega),List.getElem?_eq_getElem (by omega)⟩
     obtain ⟨kd,s,u,t,x,b,rfl,hs,ht⟩:=hrows r (List.mem_of_getElem? hr)
     have key:=ybj W rows pad hp a n c i hh.2 hh.1 q hq kd s u t x b hr hs ht (NfV a n c pad i) (XfV (zal f3.ntmps zai yw W [⟨33,a.getD ⟨0,0,none⟩,6,false,rows⟩]) pl3 f3.results.toList (fun r _=>r= .bool true) (cs2 (cs2 (cs2 (cs2 (cs2 (cs2 (zp2 f3)))))))) (RfV (zal f3.ntmps zai yw W [⟨33,a.getD ⟨0,0,none⟩,6,false,rows⟩]) f3.results.toList (fun r _=>r= .bool true)) (fun q' hq' gl st he=>⟨⟨i+1,hh.1,hh.2,q',hq'⟩,gl,by show 40-(i+1)<40-i;omega,he⟩)
     exact key
    ·obtain ⟨W',R',rm,held,f⟩:=q
     by_cases ha:i<n<;>by_cases hb4:i<40
     ·exact absurd ⟨ha,hb4⟩ hh
     all_goals
       cases W'<;>cases R'
       all_goals
         refine za ?_
         exact zd (hp':= []) [] rfl
  ·have dp:decide (0≤pad∧pad≤16384)=false:=decide_eq_false hp
   have dr:decide (zsp pad 0)=false:=decide_eq_false fun h=>hp h.1
   repeat ((conv=>whnf);first|refine zq ?_|refine zg ?_|refine zf ?_|refine zb ?_|refine zr (by first|exact dp|exact dr) ?_|refine zj (by first|exact dp|exact dr) ?_|refine zk (by first|exact dp|exact dr) ?_)
   conv=>whnf
   exact zd (hp':= []) [] rfl
theorem ycg {r:List At} (h:zi8 [.i,.s,.i,.s,.i,.b] r): ∃k s u t x b,r= [.int k,.str s,.int u,.str t,.int x,.bool b]∧s.length≤140737488351232∧t.length≤140737488351232:=by
  match r,h with
  | [.int k,.str s,.int u,.str t,.int x,.bool b],h=>exact ⟨k,s,u,t,x,b,rfl,h.2.1,h.2.2.2.1⟩
theorem zv0 (W:World) (pad:Int) (_: -9223372036854775808≤pad∧pad≤9223372036854775807) (a:Option Addr) (n c:Nat) (rows:List (List At)) (hn:rows.length=n) (hb:n*64≤140737488351232) (has: ∀r∈rows,zi8 [.i,.s,.i,.s,.i,.b] r∧r.length=6):
    zxt (zal f3.ntmps zai yw W [⟨33,a.getD ⟨0,0,none⟩,6,false,rows⟩]) pl3 (zp2 f3) f3.results.toList [.int pad,.xsl a n c] [] (fun r _=>r= .bool true):=
  zxv W pad a n c rows hn hb fun r hr=>ycg (has r hr).1
end Go.Sym.Z
