/-
  Contracts of functions of the program, each said of symbolic values, and plain laws; no condition beyond each statement's own.
-/
import Derived.Test.YtmmpgjcpielefaaGreatG17
import Derived.Test.YtmmpgjcpielefaaGreatG18
set_option linter.unusedSimpArgs false
set_option linter.unusedVariables false
namespace Go.Sym.Gcm
open Go.Sym.Lp
abbrev El:=UInt64×UInt64
def R64:UInt64:=16212958658533785600
def xr (a b:El):El:=(a.1^^^b.1,a.2^^^b.2)
def z0:El:=(0,0)
def msk (l:UInt64):UInt64:=R64&&&(0-(l&&&1))
def yj (e:El):El:=(e.1>>>1^^^msk e.2,e.2>>>1|||e.1<<<63)
theorem z9n (a:El):xr a z0=a:=by
  unfold xr z0;simp
theorem yim (a:El):xr z0 a=a:=by
  unfold xr z0;simp
theorem zr0 (a b:El):xr a b=xr b a:=by
  unfold xr;rw [UInt64.xor_comm,UInt64.xor_comm a.2]
theorem zvm (a b c:El):xr (xr a b) c=xr a (xr b c):=by
  unfold xr;simp only [UInt64.xor_assoc]
theorem yay (l:UInt64):l&&&1=0∨l&&&1=1:=by
  have h:(l&&&1).toNat=l.toNat%2:=by
    rw [UInt64.toNat_and];show l.toNat&&&(2^1-1)=_;rw [Nat.and_two_pow_sub_one_eq_mod]
  have h2:l.toNat%2=0∨l.toNat%2=1:=by omega
  rcases h2 with h2|h2
  ·left;apply UInt64.toNat_inj.1;rw [h,h2];rfl
  ·right;apply UInt64.toNat_inj.1;rw [h,h2];rfl
theorem z2f (a b:UInt64):(a^^^b)&&&1=(a&&&1)^^^(b&&&1):=by
  apply UInt64.toNat_inj.1
  simp only [UInt64.toNat_and,UInt64.toNat_xor]
  apply Nat.eq_of_testBit_eq
  intro i
  simp only [Nat.testBit_and,Nat.testBit_xor]
  cases Nat.testBit a.toNat i<;>cases Nat.testBit b.toNat i<;>cases Nat.testBit (UInt64.toNat 1) i<;>rfl
theorem z90 (a b:UInt64):msk (a^^^b)=msk a^^^msk b:=by
  unfold msk
  rw [z2f]
  rcases yay a with h|h<;>rcases yay b with h'|h'<;>rw [h,h']<;>decide
theorem zyo (a b k:UInt64):(a^^^b)>>>k=a>>>k^^^b>>>k:=by
  apply UInt64.toNat_inj.1
  simp only [UInt64.toNat_xor,UInt64.toNat_shiftRight]
  apply Nat.eq_of_testBit_eq
  intro i
  simp only [Nat.testBit_xor,Nat.testBit_shiftRight]
theorem z7t (a b k:UInt64):(a^^^b)<<<k=a<<<k^^^b<<<k:=by
  apply UInt64.toNat_inj.1
  simp only [UInt64.toNat_xor,UInt64.toNat_shiftLeft]
  apply Nat.eq_of_testBit_eq
  intro i
  simp only [Nat.testBit_xor,Nat.testBit_mod_two_pow,Nat.testBit_shiftLeft]
  cases decide (i<64)<;>cases decide (i≥UInt64.toNat k%64)<;>simp
theorem ybi {k:Nat} (hk:k<64) (l h:UInt64) (hl:l.toNat<2^k):l|||h<<<UInt64.ofNat k=l^^^h<<<UInt64.ofNat k:=by
  have hk2:(UInt64.ofNat k).toNat=k:=by rw [UInt64.toNat_ofNat'];omega
  apply UInt64.toNat_inj.1
  simp only [UInt64.toNat_xor,UInt64.toNat_or,UInt64.toNat_shiftLeft]
  rw [hk2,Nat.mod_eq_of_lt hk]
  apply Nat.eq_of_testBit_eq
  intro i
  simp only [Nat.testBit_xor,Nat.testBit_or,Nat.testBit_mod_two_pow,Nat.testBit_shiftLeft]
  by_cases hi:i<k
  ·have e:decide (i≥k)=false:=decide_eq_false (by omega)
   rw [e];simp
  ·have e:Nat.testBit l.toNat i=false:=Nat.testBit_lt_two_pow (Nat.lt_of_lt_of_le hl (Nat.pow_le_pow_right (by decide) (by omega)))
   rw [e];simp
theorem zm9 (e:El):(yj e).2=e.2>>>1^^^e.1<<<63:=by
  have h:=ybi (k:=63) (by decide) (e.2>>>1) e.1 (by
    rw [UInt64.toNat_shiftRight];have:=e.2.toNat_lt;show e.2.toNat>>>1<9223372036854775808;rw [Nat.shiftRight_eq_div_pow];omega)
  exact h
theorem zy2 (a b:El):yj (xr a b)=xr (yj a) (yj b):=by
  refine Prod.ext ?_ ?_
  ·show (a.1^^^b.1)>>>1^^^msk (a.2^^^b.2)=(a.1>>>1^^^msk a.2)^^^(b.1>>>1^^^msk b.2)
   rw [zyo,z90]
   generalize a.1>>>1=p
   generalize b.1>>>1=q
   generalize msk a.2=r
   generalize msk b.2=s
   rw [UInt64.xor_assoc,UInt64.xor_assoc,←UInt64.xor_assoc q,UInt64.xor_comm q,UInt64.xor_assoc r]
  ·show (yj (xr a b)).2=(yj a).2^^^(yj b).2
   rw [zm9,zm9,zm9]
   show (a.2^^^b.2)>>>1^^^(a.1^^^b.1)<<<63=_
   rw [zyo,z7t]
   generalize a.2>>>1=p
   generalize b.2>>>1=q
   generalize a.1<<<63=r
   generalize b.1<<<63=s
   rw [UInt64.xor_assoc,UInt64.xor_assoc,←UInt64.xor_assoc q,UInt64.xor_comm q,UInt64.xor_assoc r]
theorem z3f:yj z0=z0:=by decide
def hf4 (e:El):El:=yj (yj (yj (yj e)))
theorem ycf (a b:El):hf4 (xr a b)=xr (hf4 a) (hf4 b):=by
  unfold hf4;simp only [zy2]
def toN (e:El):Nat:=e.1.toNat*18446744073709551616+e.2.toNat
theorem zzj {a b:El} (h:toN a=toN b):a=b:=by
  unfold toN at h
  have h1:=a.2.toNat_lt
  have h2:=b.2.toNat_lt
  have e1:a.1.toNat=b.1.toNat:=by omega
  have e2:a.2.toNat=b.2.toNat:=by omega
  exact Prod.ext (UInt64.toNat_inj.1 e1) (UInt64.toNat_inj.1 e2)
theorem zja (x:UInt64) {k:Nat} (h:k<64):(x>>>UInt64.ofNat k).toNat=x.toNat/ 2^k:=by
  have hk:(UInt64.ofNat k).toNat=k:=by rw [UInt64.toNat_ofNat'];omega
  rw [UInt64.toNat_shiftRight,hk,Nat.mod_eq_of_lt h,Nat.shiftRight_eq_div_pow]
theorem orN {l h:UInt64} {k m:Nat} (hl:l.toNat<2^k) (hh:h.toNat=2^k*m):(l|||h).toNat=l.toNat+2^k*m:=by
  rw [UInt64.toNat_or,hh,Nat.or_comm,←Nat.two_pow_add_eq_or_of_lt hl,Nat.add_comm]
theorem zia {e:El} (h:e.2.toNat%2=0):toN (yj e)=toN e/ 2:=by
  have hm:msk e.2=0:=by
    unfold msk
    have h1:(e.2&&&1)=0:=by
      apply UInt64.toNat_inj.1
      rw [UInt64.toNat_and];show e.2.toNat&&&(2^1-1)=0;rw [Nat.and_two_pow_sub_one_eq_mod];exact h
    rw [h1];decide
  have e1:(yj e).1=e.1>>>UInt64.ofNat 1:=by
    show e.1>>>1^^^msk e.2=_
    rw [hm,UInt64.xor_zero];rfl
  have s1:=zja e.1 (k:=1) (by decide)
  have s2:(e.2>>>1).toNat=e.2.toNat/ 2:=zja e.2 (k:=1) (by decide)
  have hl:=e.2.toNat_lt
  have s3:(e.1<<<63).toNat=2^63*(e.1.toNat%2):=by
    rw [UInt64.toNat_shiftLeft,Nat.shiftLeft_eq];show e.1.toNat*9223372036854775808%18446744073709551616=9223372036854775808*_;omega
  have e2:(yj e).2.toNat=e.2.toNat/ 2+9223372036854775808*(e.1.toNat%2):=by
    have:=orN (l:=e.2>>>1) (h:=e.1<<<63) (k:=63) (m:=e.1.toNat%2) (by rw [s2];omega) s3
    rw [s2] at this
    exact this
  unfold toN
  rw [e1,s1,e2]
  omega
def sh4 (e:El):El:=(e.1>>>4,e.2>>>4|||e.1<<<60)
theorem z2q (e:El):toN (sh4 e)=toN e/ 16:=by
  have s1:(e.1>>>4).toNat=e.1.toNat/ 16:=zja e.1 (k:=4) (by decide)
  have s2:(e.2>>>4).toNat=e.2.toNat/ 16:=zja e.2 (k:=4) (by decide)
  have hl:=e.2.toNat_lt
  have s3:(e.1<<<60).toNat=2^60*(e.1.toNat%16):=by
    rw [UInt64.toNat_shiftLeft,Nat.shiftLeft_eq];show e.1.toNat*1152921504606846976%18446744073709551616=1152921504606846976*_;omega
  have e2:(sh4 e).2.toNat=e.2.toNat/ 16+1152921504606846976*(e.1.toNat%16):=by
    have:=orN (l:=e.2>>>4) (h:=e.1<<<60) (k:=60) (m:=e.1.toNat%16) (by rw [s2];omega) s3
    rw [s2] at this
    exact this
  unfold toN
  rw [e2]
  show (e.1>>>4).toNat*_+_=_
  rw [s1]
  omega
theorem z2u {e:El} (h:e.2.toNat%16=0):hf4 e=sh4 e:=by
  have hN:toN e%16=0:=by unfold toN;omega
  have even: ∀{a:El},toN a%2=0→a.2.toNat%2=0:=fun {a} ha=>by unfold toN at ha;omega
  apply zzj
  have h1:=zia (e:=e) (by omega)
  have h2:=zia (e:=yj e) (even (by omega))
  have h3:=zia (e:=yj (yj e)) (even (by omega))
  have h4:=zia (e:=yj (yj (yj e))) (even (by omega))
  unfold hf4
  rw [h4,h3,h2,h1,z2q]
  omega
def zga (i:Nat):UInt64:=(hf4 (0,UInt64.ofNat i)).1
theorem z0f: ∀i,i<16→hf4 (0,UInt64.ofNat i)=(zga i,0):=by decide
theorem zt5 (l:UInt64):(l&&&15).toNat=l.toNat%16:=by
  rw [UInt64.toNat_and];show l.toNat&&&(2^4-1)=_;rw [Nat.and_two_pow_sub_one_eq_mod]
theorem z7j (l:UInt64):(l>>>4)<<<4^^^(l&&&15)=l:=by
  apply UInt64.toNat_inj.1
  rw [UInt64.toNat_xor,UInt64.toNat_and,UInt64.toNat_shiftLeft,UInt64.toNat_shiftRight]
  apply Nat.eq_of_testBit_eq
  intro i
  rw [Nat.testBit_xor,Nat.testBit_and,Nat.testBit_mod_two_pow]
  show ((decide (i<64)&&Nat.testBit ((l.toNat>>>4)<<<4) i) ^^(Nat.testBit l.toNat i&&Nat.testBit (2^4-1) i))=_
  rw [Nat.testBit_shiftLeft,Nat.testBit_shiftRight,Nat.testBit_two_pow_sub_one]
  by_cases h4:i<4
  ·rw [decide_eq_true h4,decide_eq_false (show ¬i≥4 by omega)];simp
  ·rw [decide_eq_false h4,decide_eq_true (show i≥4 by omega)]
   by_cases h64:i<64
   ·rw [decide_eq_true h64,show 4+(i-4)=i by omega];simp
   ·rw [decide_eq_false h64]
    have:Nat.testBit l.toNat i=false:=Nat.testBit_lt_two_pow (Nat.lt_of_lt_of_le l.toNat_lt (Nat.pow_le_pow_right (by decide) (by omega)))
    rw [this];simp
theorem yb1 (e:El):hf4 e=((sh4 e).1^^^zga (e.2&&&15).toNat,(sh4 e).2):=by
  have hs:e=xr (e.1,(e.2>>>4)<<<4) (0,e.2&&&15):=by
    unfold xr
    refine Prod.ext ?_ ?_
    ·show e.1=e.1^^^0;rw [UInt64.xor_zero]
    ·exact (z7j e.2).symm
  have h15:=zt5 e.2
  have hq:UInt64.ofNat (e.2&&&15).toNat=e.2&&&15:=UInt64.ofNat_toNat
  have hsm:=z0f (e.2&&&15).toNat (by rw [h15];omega)
  rw [hq] at hsm
  have s2:(e.2>>>4).toNat=e.2.toNat/ 16:=zja e.2 (k:=4) (by decide)
  have hl:=e.2.toNat_lt
  have s3:((e.2>>>4)<<<4).toNat=16*(e.2.toNat/ 16):=by
    rw [UInt64.toNat_shiftLeft,s2,Nat.shiftLeft_eq];show e.2.toNat/ 16*16%18446744073709551616=_;omega
  have hev:=z2u (e:=(e.1,(e.2>>>4)<<<4)) (by show ((e.2>>>4)<<<4).toNat%16=0;rw [s3];omega)
  have hsh:sh4 (e.1,(e.2>>>4)<<<4)=sh4 e:=by
    apply zzj
    rw [z2q,z2q]
    unfold toN
    rw [s3]
    show (e.1.toNat*_+_)/ 16=_
    omega
  conv=>lhs;rw [hs]
  rw [ycf,hsm,hev,hsh]
  unfold xr
  refine Prod.ext rfl ?_
  show (sh4 e).2^^^0=_
  rw [UInt64.xor_zero]
def zdn (P:Nat→Bool):El→Nat→El
  |_,0=>z0
  |h,n+1=>xr (if P 0=true then h else z0) (zdn (fun j=>P (j+1)) (yj h) n)
theorem z8y (c:Bool) (h:El):yj (if c=true then h else z0)=if c=true then yj h else z0:=by
  cases c
  ·exact z3f
  ·rfl
theorem zj7 (n:Nat): ∀(P:Nat→Bool) (h:El),yj (zdn P h n)=zdn P (yj h) n:=by
  induction n with
  |zero=>intro P h;exact z3f
  |succ n ih=>intro P h;simp only [zdn];rw [zy2,z8y,ih]
theorem zu7 (n:Nat): ∀(P:Nat→Bool) (h:El),zdn P h (n+1)=xr (zdn P h n) (if P n=true then (Nat.repeat yj n h) else z0):=by
  induction n with
  |zero=>intro P h;simp only [zdn,Nat.repeat];rw [z9n,yim]
  |succ n ih=>
   intro P h
   have hr: ∀m (g:El),Nat.repeat yj m (yj g)=yj (Nat.repeat yj m g):=by
     intro m
     induction m with
     |zero=>intro g;rfl
     |succ m ihm=>intro g;simp only [Nat.repeat];rw [ihm]
   rw [zdn,ih,←zvm,hr]
   rfl
theorem z45 (n:Nat) (P:Nat→Bool) (h:El):
    zdn P h (n+4)=xr (hf4 (zdn (fun j=>P (j+4)) h n)) (zdn P h 4):=by
  have e:hf4 (zdn (fun j=>P (j+4)) h n)=zdn (fun j=>P (j+4)) (yj (yj (yj (yj h)))) n:=by
    unfold hf4;rw [zj7,zj7,zj7,zj7]
  rw [e,zr0]
  simp only [zdn]
  rw [z9n]
  simp only [zvm]
theorem zlm (n:Nat): ∀{P Q:Nat→Bool} (h:El),(∀j,j<n→P j=Q j)→zdn P h n=zdn Q h n:=by
  induction n with
  |zero=>intro P Q h _;rfl
  |succ n ih=>
   intro P Q h hp
   simp only [zdn]
   rw [hp 0 (by omega),ih (yj h) (fun j hj=>hp (j+1) (by omega))]
def g6 (x:List UInt64) (i:Nat):UInt64:=x.getD i 0
def tbI (bit:Nat) (x:El) (T:List UInt64):Nat→List UInt64
  |0=>T
  |i+1=>if i&&&bit=0 then tbI bit x T i else ((tbI bit x T i).set (2*i) (g6 (tbI bit x T i) (2*i)^^^x.1)).set (2*i+1) (g6 ((tbI bit x T i).set (2*i) (g6 (tbI bit x T i) (2*i)^^^x.1)) (2*i+1)^^^x.2)
theorem zjh (bit:Nat) (x:El) (T:List UInt64): ∀i,(tbI bit x T i).length=T.length
  |0=>rfl
  |i+1=>by
   simp only [tbI]
   split
   ·exact zjh bit x T i
   ·rw [List.length_set,List.length_set];exact zjh bit x T i
def ent (T:List UInt64) (d:Nat):El:=(g6 T (2*d),g6 T (2*d+1))
theorem zwr {T:List UInt64} {i j:Nat} {v:UInt64} (h:j<T.length):g6 (T.set j v) i=if i=j then v else g6 T i:=by
  unfold g6
  by_cases e:i=j
  ·rw [if_pos e,e,List.getD_eq_getElem?_getD,List.getElem?_set_self h];rfl
  ·rw [if_neg e,List.getD_eq_getElem?_getD,List.getElem?_set_ne (by omega),←List.getD_eq_getElem?_getD]
theorem z7w {T:List UInt64} (hT:T.length=32) {n:Nat} (hn:n<16) (v w:UInt64) (d:Nat):ent ((T.set (2*n) v).set (2*n+1) w) d=if d=n then (v,w) else ent T d:=by
  have l2:(T.set (2*n) v).length=32:=by rw [List.length_set];exact hT
  have g1: ∀i,g6 ((T.set (2*n) v).set (2*n+1) w) i=if i=2*n+1 then w else if i=2*n then v else g6 T i:=fun i=>by
    rw [zwr (by omega),zwr (by omega)]
  unfold ent
  rw [g1,g1]
  by_cases e:d=n
  ·rw [if_pos e,e,if_neg (by omega),if_pos rfl,if_pos rfl]
  ·rw [if_neg e,if_neg (by omega),if_neg (by omega),if_neg (by omega),if_neg (by omega)]
theorem zyc {bit:Nat} {x:El} {T:List UInt64} (hT:T.length=32) {d:Nat} (hd:d<16): ∀n,n≤16→ent (tbI bit x T n) d=if d<n∧d&&&bit≠0 then xr (ent T d) x else ent T d
  |0,_=>by rw [if_neg (by omega)];rfl
  |n+1,hn=>by
   have ih:=zyc (bit:=bit) (x:=x) hT hd n (by omega)
   have hl:=(zjh bit x T n).trans hT
   by_cases hb:n&&&bit=0
   ·have e:tbI bit x T (n+1)=tbI bit x T n:=by simp only [tbI];rw [if_pos hb]
    rw [e,ih]
    by_cases hdn:d=n
    ·rw [if_neg (fun hh=>hh.2 (by rw [hdn];exact hb)),if_neg (fun hh=>hh.2 (by rw [hdn];exact hb))]
    ·by_cases hc:d<n∧d&&&bit≠0
     ·rw [if_pos hc,if_pos ⟨by omega,hc.2⟩]
     ·rw [if_neg hc,if_neg (fun hh=>hc ⟨by omega,hh.2⟩)]
   ·have e:tbI bit x T (n+1)=((tbI bit x T n).set (2*n) (g6 (tbI bit x T n) (2*n)^^^x.1)).set (2*n+1) (g6 ((tbI bit x T n).set (2*n) (g6 (tbI bit x T n) (2*n)^^^x.1)) (2*n+1)^^^x.2):=by simp only [tbI];rw [if_neg hb]
    have g1:g6 ((tbI bit x T n).set (2*n) (g6 (tbI bit x T n) (2*n)^^^x.1)) (2*n+1)=g6 (tbI bit x T n) (2*n+1):=by
      rw [zwr (by omega),if_neg (by omega)]
    rw [e,g1,z7w hl (by omega)]
    by_cases hdn:d=n
    ·rw [if_pos hdn,if_pos ⟨by omega,by rw [hdn];exact hb⟩]
     rw [if_neg (by omega)] at ih
     rw [←ih,hdn]
     rfl
    ·rw [if_neg hdn,ih]
     by_cases hc:d<n∧d&&&bit≠0
     ·rw [if_pos hc,if_pos ⟨by omega,hc.2⟩]
     ·rw [if_neg hc,if_neg (fun hh=>hc ⟨by omega,hh.2⟩)]
def tbO (h:El):Nat→List UInt64
  |0=>List.replicate 32 0
  |k+1=>tbI (8/ 2^k) (Nat.repeat yj k h) (tbO h k) 16
theorem zmf (h:El): ∀k,(tbO h k).length=32
  |0=>rfl
  |k+1=>by rw [tbO,zjh];exact zmf h k
def tb (h:El):List UInt64:=tbO h 4
theorem yaw (h:El):(tb h).length=32:=zmf h 4
theorem z89 (h:El) {d:Nat} (hd:d<16) (k:Nat):ent (tbO h (k+1)) d=xr (ent (tbO h k) d) (if d&&&(8/ 2^k)≠0 then Nat.repeat yj k h else z0):=by
  rw [tbO,zyc (zmf h k) hd 16 (Nat.le_refl _)]
  by_cases hc:d&&&(8/ 2^k)≠0
  ·rw [if_pos ⟨hd,hc⟩,if_pos hc]
  ·rw [if_neg (fun hh=>hc hh.2),if_neg hc,z9n]
def dig (d j:Nat):Bool:=decide (d/ 2^(3-j)%2=1)
theorem z7m: ∀d,d<16→ ∀k,k<4→(dig d k=true↔d&&&(8/ 2^k)≠0):=by decide
theorem yii (h:El): ∀d,d<16→ent (List.replicate 32 0) d=z0:=by decide
theorem ydh (h:El) {d:Nat} (hd:d<16):ent (tb h) d=zdn (dig d) h 4:=by
  have hs: ∀k,k≤4→ent (tbO h k) d=zdn (dig d) h k:=by
    intro k
    induction k with
    |zero=>intro _;exact yii h d hd
    |succ k ih=>
     intro hk
     rw [z89 h hd,zu7,ih (by omega)]
     congr 1
     have:=z7m d hd k (by omega)
     by_cases hc:d&&&(8/ 2^k)≠0
     ·rw [if_pos hc,if_pos (this.2 hc)]
     ·rw [if_neg hc,if_neg (fun hh=>hc (this.1 hh))]
  exact hs 4 (Nat.le_refl _)
def fl:List UInt64:=(List.range 16).map zga
def zj2 (x:El) (i:Nat):UInt64:=if 16≤i then x.1>>>UInt64.ofNat (4*(i%16))&&&15 else x.2>>>UInt64.ofNat (4*(i%16))&&&15
def stp (T F:List UInt64) (z:El) (d:UInt64):El:=
  (z.1>>>4^^^g6 F (z.2&&&15).toNat^^^g6 T (2*d.toNat),(z.2>>>4|||z.1<<<60)^^^g6 T (2*d.toNat+1))
def zks (T F:List UInt64) (x:El):Nat→El
  |0=>z0
  |i+1=>stp T F (zks T F x i) (zj2 x i)
def zhi (T F:List UInt64) (x:El):El:=zks T F x 32
theorem zmv (x:El) (i:Nat):(zj2 x i).toNat<16:=by
  unfold zj2
  split<;>(rw [zt5];omega)
theorem ybw (h z:El) {d:UInt64} (hd:d.toNat<16):stp (tb h) fl z d=xr (hf4 z) (zdn (dig d.toNat) h 4):=by
  have hf:g6 fl (z.2&&&15).toNat=zga (z.2&&&15).toNat:=by
    unfold g6 fl
    rw [zcv _ _ (by rw [zt5];omega)]
  rw [←ydh h hd,yb1]
  unfold stp
  rw [hf]
  generalize zga (z.2&&&15).toNat=f
  generalize tb h=T
  unfold xr ent sh4
  rfl
def zk0 (a:El) (j:Nat):Bool:=if 63<j then decide (a.2.toNat/ 2^(127-j)%2=1) else decide (a.1.toNat/ 2^(63-j)%2=1)
def zne (h a:El):El:=zdn (zk0 a) h 128
theorem z96 (x:El) {i j:Nat} (hi:i<32) (hj:j<4):dig (zj2 x i).toNat j=zk0 x (124-4*i+j):=by
  have hw: ∀(y:UInt64) (k m:Nat),k<64→m<4→((y>>>UInt64.ofNat k&&&15).toNat)/ 2^m%2=y.toNat/ 2^(k+m)%2:=by
    intro y k m hk hm
    rw [zt5,zja y hk,Nat.pow_add,←Nat.div_div_eq_div_mul]
    generalize y.toNat/ 2^k=q
    have:m=0∨m=1∨m=2∨m=3:=by omega
    rcases this with rfl|rfl|rfl|rfl
    ·show q%16/ 1%2=q/ 1%2;omega
    ·show q%16/ 2%2=q/ 2%2;omega
    ·show q%16/ 4%2=q/ 4%2;omega
    ·show q%16/ 8%2=q/ 8%2;omega
  unfold dig zk0 zj2
  by_cases h16:16≤i
  ·rw [if_pos h16,if_neg (by omega),hw _ _ _ (by omega) (by omega),show 4*(i%16)+(3-j)=63-(124-4*i+j) by omega]
  ·rw [if_neg h16,if_pos (by omega),hw _ _ _ (by omega) (by omega),show 4*(i%16)+(3-j)=127-(124-4*i+j) by omega]
theorem z3y (h x:El): ∀i,i≤32→zks (tb h) fl x i=zdn (fun j=>zk0 x (128-4*i+j)) h (4*i)
  |0,_=>rfl
  |i+1,hi=>by
   rw [zks,ybw h _ (zmv x i),z3y h x i (by omega)]
   refine Eq.trans ?_ (z45 (4*i) (fun j=>zk0 x (128-4*(i+1)+j)) h).symm
   refine congr (congrArg xr (congrArg hf4 ?_)) ?_
   ·refine zlm _ h fun j hj=>?_
    show zk0 x _=zk0 x _
    congr 1;omega
   ·refine zlm _ h fun j hj=>?_
    show dig _ j=zk0 x _
    rw [z96 x (by omega) hj]
    congr 1;omega
theorem zx5 (h x:El):zhi (tb h) fl x=zne h x:=by
  unfold zhi zne
  rw [z3y h x 32 (Nat.le_refl _)]
  refine zlm _ h fun j hj=>?_
  show zk0 x _=zk0 x _
  congr 1;omega
def tmA (a:UInt64):Nat→UInt64
  |0=>a
  |i+1=>tmA a i<<<1
def zfr (a:El) (i:Nat):UInt64:=if 63<i then tmA a.2 (i-64)>>>63 else tmA a.1 i>>>63
def tmX (a c:El):Nat→El
  |0=>z0
  |i+1=>if zfr a i=1 then xr (tmX a c i) (Nat.repeat yj i c) else tmX a c i
theorem zz1 (a:UInt64): ∀i,(tmA a i).toNat=a.toNat*2^i%18446744073709551616
  |0=>by show a.toNat=_;rw [Nat.pow_zero,Nat.mul_one,Nat.mod_eq_of_lt a.toNat_lt]
  |i+1=>by
   have e:a.toNat*2^(i+1)=a.toNat*2^i*2:=by rw [Nat.pow_succ,Nat.mul_assoc]
   rw [tmA,UInt64.toNat_shiftLeft,zz1 a i,Nat.shiftLeft_eq,e]
   generalize a.toNat*2^i=q
   show q%18446744073709551616*2%18446744073709551616=q*2%18446744073709551616
   omega
theorem zy7 (a:UInt64) {i:Nat} (h:i<64):(tmA a i>>>63).toNat=a.toNat/ 2^(63-i)%2:=by
  have e:(tmA a i>>>63).toNat=(tmA a i).toNat/ 2^63:=zja _ (k:=63) (by decide)
  rw [e,zz1]
  have hp:2^(63-i)*2^i=2^63:=by rw [←Nat.pow_add];congr 1;omega
  have h2:(18446744073709551616:Nat)=2^63*2:=by decide
  rw [h2,Nat.mod_mul_right_div_self,←hp,Nat.mul_div_mul_right _ _ (Nat.pow_pos (by decide))]
theorem z1q (a:El) {i:Nat} (h:i<128):zfr a i=1↔zk0 a i=true:=by
  have one: ∀x:UInt64,x=1↔x.toNat=1:=fun x=>by rw [←UInt64.toNat_inj];rfl
  unfold zfr zk0
  by_cases hi:63<i
  ·rw [if_pos hi,if_pos hi,one,zy7 _ (by omega),decide_eq_true_iff,show 63-(i-64)=127-i by omega]
  ·rw [if_neg hi,if_neg hi,one,zy7 _ (by omega),decide_eq_true_iff]
theorem zyk (a c:El): ∀i,i≤128→tmX a c i=zdn (zk0 a) c i
  |0,_=>rfl
  |i+1,h=>by
   rw [tmX,zyk a c i (by omega),zu7]
   have hb:=z1q a (i:=i) (by omega)
   by_cases hc:zfr a i=1
   ·rw [if_pos hc,if_pos (hb.1 hc)]
   ·rw [if_neg hc,if_neg (fun hh=>hc (hb.2 hh)),z9n]
theorem yc8 (a c:El):tmX a c 128=zne c a:=zyk a c 128 (Nat.le_refl _)
end Go.Sym.Gcm

namespace Go.Sym.Gcm
open Go.Sym.Lp Go.Sym.Aes
def ldE (s:List UInt8):Nat→El
  |0=>z0
  |i+1=>((ldE s i).1<<<8|||(s.getD i 0).toUInt64,(ldE s i).2<<<8|||(s.getD (8+i) 0).toUInt64)
def ld (s:List UInt8):El:=ldE s 8
def z51 (f g:Nat→UInt8):Nat→List UInt8
  |0=>List.replicate 16 0
  |i+1=>((z51 f g i).set i (f i)).set (8+i) (g i)
theorem zum (f g:Nat→UInt8): ∀i,(z51 f g i).length=16
  |0=>rfl
  |i+1=>by simp only [z51,List.length_set];exact zum f g i
theorem z3q (f g:Nat→UInt8):z51 f g 8= [f 0,f 1,f 2,f 3,f 4,f 5,f 6,f 7,g 0,g 1,g 2,g 3,g 4,g 5,g 6,g 7]:=rfl
def zlx (e:El) (i:Nat):List UInt8:=z51 (fun i=>(e.1>>>UInt64.ofNat (56-8*i)).toUInt8) (fun i=>(e.2>>>UInt64.ofNat (56-8*i)).toUInt8) i
theorem zts (e:El) (i:Nat):(zlx e i).length=16:=zum _ _ i
theorem ych (e:El) (i:Nat):zlx e (i+1)=((zlx e i).set i (e.1>>>UInt64.ofNat (56-8*i)).toUInt8).set (8+i) (e.2>>>UInt64.ofNat (56-8*i)).toUInt8:=rfl
def wr (e:El):List UInt8:=zlx e 8
theorem ziv (e:El):(wr e).length=16:=zts e 8
theorem z7z (e:El):wr e= [(e.1>>>UInt64.ofNat (56-8*0)).toUInt8,(e.1>>>UInt64.ofNat (56-8*1)).toUInt8,(e.1>>>UInt64.ofNat (56-8*2)).toUInt8,(e.1>>>UInt64.ofNat (56-8*3)).toUInt8,(e.1>>>UInt64.ofNat (56-8*4)).toUInt8,(e.1>>>UInt64.ofNat (56-8*5)).toUInt8,(e.1>>>UInt64.ofNat (56-8*6)).toUInt8,(e.1>>>UInt64.ofNat (56-8*7)).toUInt8,(e.2>>>UInt64.ofNat (56-8*0)).toUInt8,(e.2>>>UInt64.ofNat (56-8*1)).toUInt8,(e.2>>>UInt64.ofNat (56-8*2)).toUInt8,(e.2>>>UInt64.ofNat (56-8*3)).toUInt8,(e.2>>>UInt64.ofNat (56-8*4)).toUInt8,(e.2>>>UInt64.ofNat (56-8*5)).toUInt8,(e.2>>>UInt64.ofNat (56-8*6)).toUInt8,(e.2>>>UInt64.ofNat (56-8*7)).toUInt8]:=by
  unfold wr zlx
  rw [z3q]
def sr8 (a:UInt64):Nat→UInt64
  |0=>a
  |k+1=>sr8 a k>>>8
def zly (e:El):Nat→List UInt8
  |0=>List.replicate 16 0
  |k+1=>((zly e k).set (7-k) (sr8 e.1 k&&&255).toUInt8).set (15-k) (sr8 e.2 k&&&255).toUInt8
theorem zvb (e:El): ∀i,(zly e i).length=16
  |0=>rfl
  |i+1=>by simp only [zly,List.length_set];exact zvb e i
theorem zzs (a:UInt64): ∀k,(sr8 a k).toNat=a.toNat/ 2^(8*k)
  |0=>by show a.toNat=_;simp
  |k+1=>by
   have e:(sr8 a k>>>8).toNat=(sr8 a k).toNat/ 2^8:=zja _ (k:=8) (by decide)
   rw [sr8,e,zzs a k,Nat.div_div_eq_div_mul,←Nat.pow_add];rfl
theorem zd1 (y:UInt64):(y&&&255).toNat=y.toNat%256:=by
  rw [UInt64.toNat_and];show y.toNat&&&(2^8-1)=_;rw [Nat.and_two_pow_sub_one_eq_mod]
theorem x5 (a:UInt64) {k:Nat} (h:k<8):(sr8 a k&&&255).toUInt8=(a>>>UInt64.ofNat (8*k)).toUInt8:=by
  apply UInt8.toNat_inj.1
  rw [UInt64.toNat_toUInt8,UInt64.toNat_toUInt8,zd1,zzs,zja _ (by omega),Nat.mod_mod]
theorem yfg (e:El):zly e 8=wr e:=by
  have h1:zly e 8= [(sr8 e.1 7&&&255).toUInt8,(sr8 e.1 6&&&255).toUInt8,(sr8 e.1 5&&&255).toUInt8,(sr8 e.1 4&&&255).toUInt8,(sr8 e.1 3&&&255).toUInt8,(sr8 e.1 2&&&255).toUInt8,(sr8 e.1 1&&&255).toUInt8,(sr8 e.1 0&&&255).toUInt8,(sr8 e.2 7&&&255).toUInt8,(sr8 e.2 6&&&255).toUInt8,(sr8 e.2 5&&&255).toUInt8,(sr8 e.2 4&&&255).toUInt8,(sr8 e.2 3&&&255).toUInt8,(sr8 e.2 2&&&255).toUInt8,(sr8 e.2 1&&&255).toUInt8,(sr8 e.2 0&&&255).toUInt8]:=rfl
  rw [h1]
  rw [x5 e.1 (k:=7) (by decide),x5 e.1 (k:=6) (by decide),x5 e.1 (k:=5) (by decide),x5 e.1 (k:=4) (by decide),x5 e.1 (k:=3) (by decide),x5 e.1 (k:=2) (by decide),x5 e.1 (k:=1) (by decide),x5 e.1 (k:=0) (by decide)]
  rw [x5 e.2 (k:=7) (by decide),x5 e.2 (k:=6) (by decide),x5 e.2 (k:=5) (by decide),x5 e.2 (k:=4) (by decide),x5 e.2 (k:=3) (by decide),x5 e.2 (k:=2) (by decide),x5 e.2 (k:=1) (by decide),x5 e.2 (k:=0) (by decide)]
  rw [z7z]
def ctr (nonce:List UInt8) (n:UInt32):List UInt8:=nonce++ [(n>>>24).toUInt8,(n>>>16).toUInt8,(n>>>8).toUInt8,n.toUInt8]
theorem zmn {nonce:List UInt8} (h:nonce.length=12) (n:UInt32):(ctr nonce n).length=16:=by unfold ctr;simp [h]
def zsw (nonce:List UInt8) (n:UInt32):Nat→List UInt8
  |0=>nonce++ [0,0,0,0]
  |i+1=>(zsw nonce n i).set (15-i) (n>>>UInt32.ofNat (8*i)).toUInt8
theorem zvh {nonce:List UInt8} (h:nonce.length=12) (n:UInt32): ∀i,(zsw nonce n i).length=16
  |0=>by simp [zsw,h]
  |i+1=>by simp only [zsw,List.length_set];exact zvh h n i
theorem z5v {x:List UInt8} (h:x.length=12): ∃a0 a1 a2 a3 a4 a5 a6 a7 a8 a9 b0 b1,x= [a0,a1,a2,a3,a4,a5,a6,a7,a8,a9,b0,b1]:=by
  match x,h with
  | [a0,a1,a2,a3,a4,a5,a6,a7,a8,a9,b0,b1],_=>exact ⟨a0,a1,a2,a3,a4,a5,a6,a7,a8,a9,b0,b1,rfl⟩
theorem z5e {nonce:List UInt8} (h:nonce.length=12) (n:UInt32):zsw nonce n 4=ctr nonce n:=by
  obtain ⟨a0,a1,a2,a3,a4,a5,a6,a7,a8,a9,b0,b1,rfl⟩:=z5v h
  have e:(n>>>UInt32.ofNat (8*0)).toUInt8=n.toUInt8:=by
    have:n>>>UInt32.ofNat (8*0)=n:=UInt32.shiftRight_zero
    rw [this]
  show [a0,a1,a2,a3,a4,a5,a6,a7,a8,a9,b0,b1,_,_,_,(n>>>UInt32.ofNat (8*0)).toUInt8]=_
  rw [e]
  rfl
def beB (x:Int) (size:Nat):List UInt8:=(List.range size).map fun j=>UInt8.ofInt (x/ 2^(8*(size-1-j)))
theorem zat (x:Int) (size:Nat):(beB x size).length=size:=zz _ _
theorem z1r (n:Nat):UInt8.ofInt (n:Int)=UInt8.ofNat n:=by
  apply UInt8.toNat_inj.1
  unfold UInt8.ofInt
  rw [UInt8.toNat_ofNat',UInt8.toNat_ofNat']
  omega
theorem zdp {n:Nat} (k:Nat):UInt8.ofInt ((n:Int)/ 2^k)=UInt8.ofNat (n/ 2^k):=by
  have e:((n:Int)/ 2^k)=((n/ 2^k:Nat):Int):=by rw [Int.natCast_ediv,Int.natCast_pow];rfl
  rw [e,z1r]
theorem ybe {nonce:List UInt8} {n:Nat} (hn:n<4294967296):nonce++beB (n:Int) 4=ctr nonce (UInt32.ofNat n):=by
  unfold ctr
  congr 1
  have hv:(UInt32.ofNat n).toNat=n:=by rw [UInt32.toNat_ofNat'];omega
  have b: ∀k,k<32→UInt8.ofInt ((n:Int)/ 2^k)=(UInt32.ofNat n>>>UInt32.ofNat k).toUInt8:=by
    intro k hk
    have hk2:(UInt32.ofNat k).toNat=k:=by rw [UInt32.toNat_ofNat'];omega
    rw [zdp]
    apply UInt8.toNat_inj.1
    rw [UInt32.toNat_toUInt8,UInt8.toNat_ofNat',UInt32.toNat_shiftRight,hv,hk2,Nat.mod_eq_of_lt hk,Nat.shiftRight_eq_div_pow]
  have b0:=b 0 (by decide)
  have z:UInt32.ofNat n>>>UInt32.ofNat 0=UInt32.ofNat n:=UInt32.shiftRight_zero
  rw [z] at b0
  show [UInt8.ofInt ((n:Int)/ 2^24),UInt8.ofInt ((n:Int)/ 2^16),UInt8.ofInt ((n:Int)/ 2^8),UInt8.ofInt ((n:Int)/ 2^0)]=_
  rw [b 24 (by decide),b 16 (by decide),b 8 (by decide),b0]
  rfl
theorem yfq {m n:Nat} (hm:m<18446744073709551616) (hn:n<18446744073709551616):beB (m:Int) 8++beB (n:Int) 8=wr (UInt64.ofNat m,UInt64.ofNat n):=by
  have b: ∀{m:Nat},m<18446744073709551616→ ∀k,k<64→UInt8.ofInt ((m:Int)/ 2^k)=(UInt64.ofNat m>>>UInt64.ofNat k).toUInt8:=by
    intro m hm k hk
    have hv:(UInt64.ofNat m).toNat=m:=by rw [UInt64.toNat_ofNat'];omega
    rw [zdp]
    apply UInt8.toNat_inj.1
    rw [UInt64.toNat_toUInt8,UInt8.toNat_ofNat',zja _ hk,hv]
  have e: ∀{m:Nat},m<18446744073709551616→beB (m:Int) 8= [(UInt64.ofNat m>>>UInt64.ofNat 56).toUInt8,(UInt64.ofNat m>>>UInt64.ofNat 48).toUInt8,(UInt64.ofNat m>>>UInt64.ofNat 40).toUInt8,(UInt64.ofNat m>>>UInt64.ofNat 32).toUInt8,(UInt64.ofNat m>>>UInt64.ofNat 24).toUInt8,(UInt64.ofNat m>>>UInt64.ofNat 16).toUInt8,(UInt64.ofNat m>>>UInt64.ofNat 8).toUInt8,(UInt64.ofNat m>>>UInt64.ofNat 0).toUInt8]:=by
    intro m hm
    show [UInt8.ofInt ((m:Int)/ 2^56),UInt8.ofInt ((m:Int)/ 2^48),UInt8.ofInt ((m:Int)/ 2^40),UInt8.ofInt ((m:Int)/ 2^32),UInt8.ofInt ((m:Int)/ 2^24),UInt8.ofInt ((m:Int)/ 2^16),UInt8.ofInt ((m:Int)/ 2^8),UInt8.ofInt ((m:Int)/ 2^0)]=_
    rw [b hm 56 (by decide),b hm 48 (by decide),b hm 40 (by decide),b hm 32 (by decide),b hm 24 (by decide),b hm 16 (by decide),b hm 8 (by decide),b hm 0 (by decide)]
  rw [e hm,e hn]
  rfl
def zbd (l:List UInt8):List UInt8:=l++List.replicate (16-l.length) 0
theorem zxu {l:List UInt8} (h:l.length=16):zbd l=l:=by unfold zbd;rw [h];simp
def zig (T F:List UInt64) (y:El) (B:List UInt8):Nat→El
  |0=>y
  |t+1=>zhi T F (xr (ld (zbd ((B.drop (16*t)).take 16))) (zig T F y B t))
def gaB (T F:List UInt64) (y:El) (B:List UInt8):El:=zig T F y B ((B.length+15)/ 16)
def zgk (h:El) (s:List UInt8):Nat→El
  |0=>z0
  |t+1=>zne h (xr (zgk h s t) (ld ((s.drop (16*t)).take 16)))
def zax (n:Nat):List UInt8:=List.replicate ((16-n%16)%16) 0
theorem ze0 (n:Nat):(zax n).length=(16-n%16)%16:=List.length_replicate
theorem zte (h:El) (A B C:List UInt8) (y:El) {n:Nat} (hA:A.length=16*n) (hy:y=zgk h (A++(B++zax B.length)++C) n): ∀t,t≤(B.length+15)/ 16→
    zig (tb h) fl y B t=zgk h (A++(B++zax B.length)++C) (n+t)
  |0,_=>hy
  |t+1,ht=>by
   have ih:=zte h A B C y hA hy t (by omega)
   show zhi (tb h) fl (xr (ld (zbd ((B.drop (16*t)).take 16))) (zig (tb h) fl y B t))=zne h (xr (zgk h (A++(B++zax B.length)++C) (n+t)) (ld (((A++(B++zax B.length)++C).drop (16*(n+t))).take 16)))
   rw [ih,zx5,zr0]
   congr 3
   have hfl:=ze0 B.length
   have e1:(A++(B++zax B.length)++C).drop (16*(n+t))=(B++zax B.length).drop (16*t)++C:=by
     rw [List.append_assoc,show 16*(n+t)=A.length+16*t by omega,List.drop_append]
     have h1:List.drop (A.length+16*t) A= []:=List.drop_eq_nil_of_le (by omega)
     rw [h1,List.nil_append,show A.length+16*t-A.length=16*t by omega,List.drop_append_of_le_length (by rw [List.length_append,hfl];omega)]
   have hl2:((B++zax B.length).drop (16*t)).length=B.length+(zax B.length).length-16*t:=by rw [List.length_drop,List.length_append]
   rw [e1,List.take_append_of_le_length (by rw [hl2,hfl];omega)]
   unfold zbd
   by_cases h16:16*t+16≤B.length
   ·rw [List.drop_append_of_le_length (by omega),List.take_append_of_le_length (by rw [List.length_drop];omega)]
    rw [show 16-((B.drop (16*t)).take 16).length=0 by rw [List.length_take,List.length_drop];omega]
    simp
   ·have e2:(B.drop (16*t)).take 16=B.drop (16*t):=List.take_of_length_le (by rw [List.length_drop];omega)
    rw [e2,List.drop_append_of_le_length (by omega),List.take_of_length_le (by rw [List.length_append,List.length_drop,hfl];omega)]
    unfold zax
    rw [List.length_drop]
    congr 2
    omega
def zpc (aad b:List UInt8):List UInt8:=aad++zax aad.length++(b++zax b.length)++wr (UInt64.ofNat (8*aad.length),UInt64.ofNat (8*b.length))
def gN (aad b:List UInt8):Nat:=(aad.length+15)/ 16+(b.length+15)/ 16+1
theorem z31 (aad b:List UInt8):(zpc aad b).length=16*gN aad b:=by
  unfold zpc gN
  have h1:=ze0 aad.length
  have h2:=ze0 b.length
  have h3:=ziv (UInt64.ofNat (8*aad.length),UInt64.ofNat (8*b.length))
  simp only [List.length_append]
  omega
theorem ydc (h:El) (aad b:List UInt8):
    zhi (tb h) fl (xr (ld (wr (UInt64.ofNat (8*aad.length),UInt64.ofNat (8*b.length)))) (gaB (tb h) fl (gaB (tb h) fl z0 aad) b))=zgk h (zpc aad b) (gN aad b):=by
  obtain ⟨L,hL⟩: ∃L,L=wr (UInt64.ofNat (8*aad.length),UInt64.ofNat (8*b.length)):=⟨_,rfl⟩
  have hLl:L.length=16:=by rw [hL];exact ziv _
  have h1:=ze0 aad.length
  have h2:=ze0 b.length
  have p1:=zte h [] aad ((b++zax b.length)++L) z0 (n:=0) rfl rfl ((aad.length+15)/ 16) (Nat.le_refl _)
  have hA:(aad++zax aad.length).length=16*((aad.length+15)/ 16):=by rw [List.length_append,h1];omega
  have e1: []++(aad++zax aad.length)++((b++zax b.length)++L)=aad++zax aad.length++(b++zax b.length)++L:=by
    rw [List.nil_append,List.append_assoc (aad++zax aad.length)]
  rw [e1,Nat.zero_add] at p1
  have p2:=zte h (aad++zax aad.length) b L (gaB (tb h) fl z0 aad) (n:=(aad.length+15)/ 16) hA p1 ((b.length+15)/ 16) (Nat.le_refl _)
  have hT:zpc aad b=aad++zax aad.length++(b++zax b.length)++L:=by unfold zpc;rw [hL]
  rw [←hL,hT]
  show _=zne h (xr (zgk h _ ((aad.length+15)/ 16+(b.length+15)/ 16)) (ld ((List.drop (16*((aad.length+15)/ 16+(b.length+15)/ 16)) _).take 16)))
  rw [←p2,zx5,zr0]
  have hd:List.drop (16*((aad.length+15)/ 16+(b.length+15)/ 16)) (aad++zax aad.length++(b++zax b.length)++L)=L:=by
    apply List.drop_left'
    simp only [List.length_append]
    omega
  rw [hd,List.take_of_length_le (by omega)]
  rfl
end Go.Sym.Gcm

namespace Go.Sym.Z
open Go Go.Proofs.Tryz Go.Sym.Lp Go.Sym.Gcm
set_option maxRecDepth 100000
attribute [local irreducible] ldE zlx
def yd3:List (Nat×List PStep):= [(5,[⟨0,[]⟩,⟨1,[]⟩,⟨2,[]⟩,⟨3,[0,1,2]⟩,⟨4,[0,1,2,3]⟩,⟨5,[0,1,2]⟩,⟨6,[0,1,2]⟩,⟨7,[0,1,2]⟩,⟨8,[]⟩,⟨9,[]⟩,⟨10,[]⟩]),(6,[⟨0,[]⟩,⟨1,[]⟩,⟨2,[]⟩,⟨3,[0,1,2]⟩,⟨4,[0,1,2,3]⟩,⟨5,[0,1,2,3]⟩,⟨6,[0,1,2]⟩,⟨7,[0,1,2]⟩,⟨8,[0,1,2]⟩,⟨9,[]⟩,⟨10,[]⟩,⟨11,[]⟩])]
def yfh:List (Nat×List PStep):= []
def ydk:List (Nat×List PStep):= [(5,[⟨0,[]⟩,⟨1,[0]⟩,⟨2,[0]⟩,⟨3,[0,1,2]⟩,⟨4,[0,1,2]⟩,⟨5,[0,1,2,3,4]⟩,⟨6,[0,1,2,3,4]⟩,⟨7,[0,1,2,3,4]⟩,⟨8,[0,1,2]⟩,⟨9,[0,1,2]⟩,⟨10,[0,1,2,3,4,5,6,7,8,9]⟩,⟨11,[0,1,2,3,4,5,6,7,8,9]⟩,⟨12,[0,1,2,3,4,5,6,7,8,9,10,11]⟩,⟨13,[0,1,2,3,4,5,6,7,8,9,10,11]⟩,⟨14,[0,1,2,3,4,5,6,7,8,9,10,11]⟩,⟨15,[0,1,2,3,4,5,6,7,8,9]⟩,⟨16,[0,1,2,3,4,5,6,7,8,9]⟩,⟨17,[1,2,10,11,12,13,14,15,16]⟩,⟨18,[1,2,10,11,12,13,14,15,16]⟩,⟨19,[]⟩,⟨20,[]⟩])]
def ygx:List (Nat×TyI):= [(3,ty3),(4,ty4),(5,ty5),(9,ty9),(48,zd3),(99,xm),(113,xu),(51,zd6),(168,zea),(183,zcc),(201,zg8),(195,zha),(198,zgz),(199,zhl),(186,zfz),(134,zf6),(178,zeu),(216,zeq),(214,zew),(212,zej)]
theorem yz: ∀t i,y9 ygx t=some i→yx prog t i:=(zd zda (zd zc8 (zd zc9 (zd zdf (zd zbq (zd zcx (zd zbh (zd zbr (zd zjg (zd zvg (zd z5h (zd z2w (zd z5o (zd z6e (zd zul (zd ztl (zd zot (zd zoh (zd zna (zd zn4 zau))))))))))))))))))))
def zwi:Spec:=fun args hp K=>match args,hp with
  | [.sl 0 0 0 o n c],[.mk t [.arr8 m l]]=>Pre (16≤n∧off o+n≤l.length) (K (.agg [.u64 (ld ((l.drop (off o)).take 16)).1,.u64 (ld ((l.drop (off o)).take 16)).2]) [.mk t [.arr8 m l]])
  |_,_=>False
theorem zyw:zm prog 136 zwi:=by
  refine zk yz zg rfl func136 rfl call136 (D:=yd3) ?_ ?_
  ·intro args hp K h
   unfold zwi at h
   split at h
   ·exact Nat.le_of_ble_eq_true rfl
   ·exact h.elim
  ·intro args hp K h
   unfold zwi at h
   split at h
   ·rename_i o n c t m l
    obtain ⟨⟨hn,hl⟩,h⟩:=zl h
    refine za ?_
    refine zp (Ix (8)) (fun q=>⟨[(0,.sl 0 0 0 o n c),(2,.ptr 1 0 0 []),(3,.ptr 2 0 0 []),(5,.int q.i)],[.mk t [.arr8 m l],.mk 183 [.u64 0,.u64 0],.mk 183 [.u64 (ldE ((l.drop (off o)).take 16) q.i).1,.u64 (ldE ((l.drop (off o)).take 16) q.i).2]]⟩) (fun q=>(8)-q.i) ⟨0,Nat.zero_le _⟩ [0,1,2] ?_ ?_
    ·repeat ((conv=>whnf);refine zb ?_)
     conv=>whnf
     exact zh (congrArg (fun e:El=>SV.agg [SV.u64 e.1,SV.u64 e.2]) (show z0=ldE _ 0 by unfold ldE;rfl))
    ·intro q
     have hi:=q.hi
     have hA:off (ye o ((q.i:Int)).toNat ty5.sz)=off o+q.i:=by rw [zv];show off o+((q.i:Int)).toNat*1=_;omega
     have hB:off (ye o ((8:Int)+(q.i:Int)).toNat ty5.sz)=off o+(8+q.i):=by rw [zv];show off o+((8:Int)+(q.i:Int)).toNat*1=_;omega
     by_cases h4:q.i<8
     ·refine za ?_
      refine ⟨⟨q.i+1,h4⟩,[0,1,2],by show (8)-(q.i+1)<(8)-q.i;omega,?_⟩
      repeat ((conv=>whnf);refine zb ?_)
      conv=>whnf
      exact zh (congrArg (fun e:El=>SV.agg [SV.u64 e.1,SV.u64 e.2]) (show (_,_)=ldE ((l.drop (off o)).take 16) (q.i+1) by simp only [ldE];rw [zgn (by omega),zgn (by omega),←hA,←hB];rfl))
     ·have e4:q.i=8:=by omega
      rw [e4]
      refine za ?_
      exact ze [0] h
   ·exact h.elim
def zwh:Spec:=fun args hp K=>match args,hp with
  | [.agg [.u64 a,.u64 b]],[]=>K (.agg [.u64 (yj (a,b)).1,.u64 (yj (a,b)).2]) []
  |_,_=>False
theorem z9r:zm prog 166 zwh:=by
  refine zk yz zg rfl func166 rfl call166 (D:=yfh) ?_ ?_
  ·intro args hp K h
   unfold zwh at h
   split at h
   ·exact Nat.le_of_ble_eq_true rfl
   ·exact h.elim
  ·intro args hp K h
   unfold zwh at h
   split at h
   ·rename_i a b
    refine za ?_
    conv=>whnf
    exact ze [] h
   ·exact h.elim
def zr3:Spec:=fun args hp K=>match args,hp with
  | [.agg [.u64 a,.u64 b]],[]=>K (.arr8 16 (wr (a,b))) []
  |_,_=>False
theorem z3h:zm prog 148 zr3:=by
  refine zk yz zg rfl func148 rfl call148 (D:=ydk) ?_ ?_
  ·intro args hp K h
   unfold zr3 at h
   split at h
   ·exact Nat.le_of_ble_eq_true rfl
   ·exact h.elim
  ·intro args hp K h
   unfold zr3 at h
   split at h
   ·rename_i a b
    refine za ?_
    refine zp (Ix (8)) (fun q=>⟨[(0,.agg [.u64 a,.u64 b]),(1,.ptr 0 0 0 []),(2,.ptr 1 0 0 []),(3,.ptr 2 0 0 []),(5,.int q.i)],[.mk 183 [.u64 a,.u64 b],.mk 168 [.arr8 16 (List.replicate 16 0)],.mk 168 [.arr8 16 (zlx (a,b) q.i)]]⟩) (fun q=>(8)-q.i) ⟨0,Nat.zero_le _⟩ [0,1,2] ?_ ?_
    ·repeat ((conv=>whnf);refine zb ?_)
     conv=>whnf
     exact zh (congrArg (fun x=>SV.agg [SV.arr8 16 x]) (show List.replicate 16 0=zlx (a,b) 0 by unfold zlx;rfl))
    ·intro q
     have hi:=q.hi
     have hl:=zts (a,b) q.i
     have hA:off (ye [] ((q.i:Int)).toNat ty5.sz)=q.i:=by rw [zv];show 0+((q.i:Int)).toNat*1=_;omega
     have hB:off (ye [] ((8:Int)+(q.i:Int)).toNat ty5.sz)=(8+q.i):=by rw [zv];show 0+((8:Int)+(q.i:Int)).toNat*1=_;omega
     have hK:((56:Int)-8*(q.i:Int)).toNat=56-8*q.i:=by omega
     by_cases h4:q.i<8
     ·refine za ?_
      refine ⟨⟨q.i+1,h4⟩,[0,1,2],by show (8)-(q.i+1)<(8)-q.i;omega,?_⟩
      repeat ((conv=>whnf);refine zb ?_)
      conv=>whnf
      exact zh (congrArg (fun x=>SV.agg [SV.arr8 16 x]) (show _=zlx (a,b) (q.i+1) by rw [ych,hA,hB,hK]))
     ·have e4:q.i=8:=by omega
      rw [e4]
      refine za ?_
      exact ze [] h
   ·exact h.elim
end Go.Sym.Z
