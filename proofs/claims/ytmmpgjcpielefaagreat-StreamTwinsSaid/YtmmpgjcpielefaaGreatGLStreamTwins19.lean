/-
  Contracts of functions of the program, each said of symbolic values, and plain laws; no condition beyond each statement's own.
-/
import Derived.Test.YtmmpgjcpielefaaGreatGLStreamTwins17
import Derived.Test.YtmmpgjcpielefaaGreatGLStreamTwins18
set_option linter.unusedSimpArgs false
set_option linter.unusedVariables false
namespace Go.Sym.Gcm
open Go.Sym.Lp
abbrev El:=UInt64×UInt64
def R64:UInt64:=16212958658533785600
def xr (a b:El):El:=(a.1^^^b.1,a.2^^^b.2)
def z0:El:=(0,0)
def msk (l:UInt64):UInt64:=R64&&&(0-(l&&&1))
def y8 (e:El):El:=(e.1>>>1^^^msk e.2,e.2>>>1|||e.1<<<63)
theorem z79 (a:El):xr a z0=a:=by
  unfold xr z0;simp
theorem yb5 (a:El):xr z0 a=a:=by
  unfold xr z0;simp
theorem zo4 (a b:El):xr a b=xr b a:=by
  unfold xr;rw [UInt64.xor_comm,UInt64.xor_comm a.2]
theorem zsv (a b c:El):xr (xr a b) c=xr a (xr b c):=by
  unfold xr;simp only [UInt64.xor_assoc]
theorem yae (l:UInt64):l&&&1=0∨l&&&1=1:=by
  have h:(l&&&1).toNat=l.toNat%2:=by
    rw [UInt64.toNat_and];show l.toNat&&&(2^1-1)=_;rw [Nat.and_two_pow_sub_one_eq_mod]
  have h2:l.toNat%2=0∨l.toNat%2=1:=by omega
  rcases h2 with h2|h2
  ·left;apply UInt64.toNat_inj.1;rw [h,h2];rfl
  ·right;apply UInt64.toNat_inj.1;rw [h,h2];rfl
theorem z2p (a b:UInt64):(a^^^b)&&&1=(a&&&1)^^^(b&&&1):=by
  apply UInt64.toNat_inj.1
  simp only [UInt64.toNat_and,UInt64.toNat_xor]
  apply Nat.eq_of_testBit_eq
  intro i
  simp only [Nat.testBit_and,Nat.testBit_xor]
  cases Nat.testBit a.toNat i<;>cases Nat.testBit b.toNat i<;>cases Nat.testBit (UInt64.toNat 1) i<;>rfl
theorem z45 (a b:UInt64):msk (a^^^b)=msk a^^^msk b:=by
  unfold msk
  rw [z2p]
  rcases yae a with h|h<;>rcases yae b with h'|h'<;>rw [h,h']<;>decide
theorem zu9 (a b k:UInt64):(a^^^b)>>>k=a>>>k^^^b>>>k:=by
  apply UInt64.toNat_inj.1
  simp only [UInt64.toNat_xor,UInt64.toNat_shiftRight]
  apply Nat.eq_of_testBit_eq
  intro i
  simp only [Nat.testBit_xor,Nat.testBit_shiftRight]
theorem z5j (a b k:UInt64):(a^^^b)<<<k=a<<<k^^^b<<<k:=by
  apply UInt64.toNat_inj.1
  simp only [UInt64.toNat_xor,UInt64.toNat_shiftLeft]
  apply Nat.eq_of_testBit_eq
  intro i
  simp only [Nat.testBit_xor,Nat.testBit_mod_two_pow,Nat.testBit_shiftLeft]
  cases decide (i<64)<;>cases decide (i≥UInt64.toNat k%64)<;>simp
theorem z6t {k:Nat} (hk:k<64) (l h:UInt64) (hl:l.toNat<2^k):l|||h<<<UInt64.ofNat k=l^^^h<<<UInt64.ofNat k:=by
  have hk2:(UInt64.ofNat k).toNat=k:=by rw [UInt64.toNat_ofNat'];omega
  apply UInt64.toNat_inj.1
  simp only [UInt64.toNat_xor,UInt64.toNat_or,UInt64.toNat_shiftLeft]
  rw [hk2,Nat.mod_eq_of_lt hk]
  apply Nat.eq_of_testBit_eq
  intro i
  simp only [Nat.testBit_xor,Nat.testBit_or,Nat.testBit_mod_two_pow,Nat.testBit_shiftLeft]
  by_cases hi:i<k
  ·have e:decide (i≥k)=false:=decide_eq_false (by omega)
   rw [e];simp
  ·have e:Nat.testBit l.toNat i=false:=Nat.testBit_lt_two_pow (Nat.lt_of_lt_of_le hl (Nat.pow_le_pow_right (by decide) (by omega)))
   rw [e];simp
theorem zld (e:El):(y8 e).2=e.2>>>1^^^e.1<<<63:=by
  have h:=z6t (k:=63) (by decide) (e.2>>>1) e.1 (by
    rw [UInt64.toNat_shiftRight];have:=e.2.toNat_lt;show e.2.toNat>>>1<9223372036854775808;rw [Nat.shiftRight_eq_div_pow];omega)
  exact h
theorem zwm (a b:El):y8 (xr a b)=xr (y8 a) (y8 b):=by
  refine Prod.ext ?_ ?_
  ·show (a.1^^^b.1)>>>1^^^msk (a.2^^^b.2)=(a.1>>>1^^^msk a.2)^^^(b.1>>>1^^^msk b.2)
   rw [zu9,z45]
   generalize a.1>>>1=p
   generalize b.1>>>1=q
   generalize msk a.2=r
   generalize msk b.2=s
   rw [UInt64.xor_assoc,UInt64.xor_assoc,←UInt64.xor_assoc q,UInt64.xor_comm q,UInt64.xor_assoc r]
  ·show (y8 (xr a b)).2=(y8 a).2^^^(y8 b).2
   rw [zld,zld,zld]
   show (a.2^^^b.2)>>>1^^^(a.1^^^b.1)<<<63=_
   rw [zu9,z5j]
   generalize a.2>>>1=p
   generalize b.2>>>1=q
   generalize a.1<<<63=r
   generalize b.1<<<63=s
   rw [UInt64.xor_assoc,UInt64.xor_assoc,←UInt64.xor_assoc q,UInt64.xor_comm q,UInt64.xor_assoc r]
theorem zzm:y8 z0=z0:=by decide
def hf4 (e:El):El:=y8 (y8 (y8 (y8 e)))
theorem z8b (a b:El):hf4 (xr a b)=xr (hf4 a) (hf4 b):=by
  unfold hf4;simp only [zwm]
def toN (e:El):Nat:=e.1.toNat*18446744073709551616+e.2.toNat
theorem zvd {a b:El} (h:toN a=toN b):a=b:=by
  unfold toN at h
  have h1:=a.2.toNat_lt
  have h2:=b.2.toNat_lt
  have e1:a.1.toNat=b.1.toNat:=by omega
  have e2:a.2.toNat=b.2.toNat:=by omega
  exact Prod.ext (UInt64.toNat_inj.1 e1) (UInt64.toNat_inj.1 e2)
theorem zyc (x:UInt64) {k:Nat} (h:k<64):(x>>>UInt64.ofNat k).toNat=x.toNat/ 2^k:=by
  have hk:(UInt64.ofNat k).toNat=k:=by rw [UInt64.toNat_ofNat'];omega
  rw [UInt64.toNat_shiftRight,hk,Nat.mod_eq_of_lt h,Nat.shiftRight_eq_div_pow]
theorem orN {l h:UInt64} {k m:Nat} (hl:l.toNat<2^k) (hh:h.toNat=2^k*m):(l|||h).toNat=l.toNat+2^k*m:=by
  rw [UInt64.toNat_or,hh,Nat.or_comm,←Nat.two_pow_add_eq_or_of_lt hl,Nat.add_comm]
theorem zgv {e:El} (h:e.2.toNat%2=0):toN (y8 e)=toN e/ 2:=by
  have hm:msk e.2=0:=by
    unfold msk
    have h1:(e.2&&&1)=0:=by
      apply UInt64.toNat_inj.1
      rw [UInt64.toNat_and];show e.2.toNat&&&(2^1-1)=0;rw [Nat.and_two_pow_sub_one_eq_mod];exact h
    rw [h1];decide
  have e1:(y8 e).1=e.1>>>UInt64.ofNat 1:=by
    show e.1>>>1^^^msk e.2=_
    rw [hm,UInt64.xor_zero];rfl
  have s1:=zyc e.1 (k:=1) (by decide)
  have s2:(e.2>>>1).toNat=e.2.toNat/ 2:=zyc e.2 (k:=1) (by decide)
  have hl:=e.2.toNat_lt
  have s3:(e.1<<<63).toNat=2^63*(e.1.toNat%2):=by
    rw [UInt64.toNat_shiftLeft,Nat.shiftLeft_eq];show e.1.toNat*9223372036854775808%18446744073709551616=9223372036854775808*_;omega
  have e2:(y8 e).2.toNat=e.2.toNat/ 2+9223372036854775808*(e.1.toNat%2):=by
    have:=orN (l:=e.2>>>1) (h:=e.1<<<63) (k:=63) (m:=e.1.toNat%2) (by rw [s2];omega) s3
    rw [s2] at this
    exact this
  unfold toN
  rw [e1,s1,e2]
  omega
def sh4 (e:El):El:=(e.1>>>4,e.2>>>4|||e.1<<<60)
theorem z2m (e:El):toN (sh4 e)=toN e/ 16:=by
  have s1:(e.1>>>4).toNat=e.1.toNat/ 16:=zyc e.1 (k:=4) (by decide)
  have s2:(e.2>>>4).toNat=e.2.toNat/ 16:=zyc e.2 (k:=4) (by decide)
  have hl:=e.2.toNat_lt
  have s3:(e.1<<<60).toNat=2^60*(e.1.toNat%16):=by
    rw [UInt64.toNat_shiftLeft,Nat.shiftLeft_eq];show e.1.toNat*1152921504606846976%18446744073709551616=1152921504606846976*_;omega
  have e2:(sh4 e).2.toNat=e.2.toNat/ 16+1152921504606846976*(e.1.toNat%16):=by
    have:=orN (l:=e.2>>>4) (h:=e.1<<<60) (k:=60) (m:=e.1.toNat%16) (by rw [s2];omega) s3
    rw [s2] at this
    exact this
  unfold toN
  rw [e2]
  show (e.1>>>4).toNat*_+_=_
  rw [s1]
  omega
theorem z0k {e:El} (h:e.2.toNat%16=0):hf4 e=sh4 e:=by
  have hN:toN e%16=0:=by unfold toN;omega
  have even: ∀{a:El},toN a%2=0→a.2.toNat%2=0:=fun {a} ha=>by unfold toN at ha;omega
  apply zvd
  have h1:=zgv (e:=e) (by omega)
  have h2:=zgv (e:=y8 e) (even (by omega))
  have h3:=zgv (e:=y8 (y8 e)) (even (by omega))
  have h4:=zgv (e:=y8 (y8 (y8 e))) (even (by omega))
  unfold hf4
  rw [h4,h3,h2,h1,z2m]
  omega
def ze3 (i:Nat):UInt64:=(hf4 (0,UInt64.ofNat i)).1
theorem zxv: ∀i,i<16→hf4 (0,UInt64.ofNat i)=(ze3 i,0):=by decide
theorem zr7 (l:UInt64):(l&&&15).toNat=l.toNat%16:=by
  rw [UInt64.toNat_and];show l.toNat&&&(2^4-1)=_;rw [Nat.and_two_pow_sub_one_eq_mod]
theorem z49 (l:UInt64):(l>>>4)<<<4^^^(l&&&15)=l:=by
  apply UInt64.toNat_inj.1
  rw [UInt64.toNat_xor,UInt64.toNat_and,UInt64.toNat_shiftLeft,UInt64.toNat_shiftRight]
  apply Nat.eq_of_testBit_eq
  intro i
  rw [Nat.testBit_xor,Nat.testBit_and,Nat.testBit_mod_two_pow]
  show ((decide (i<64)&&Nat.testBit ((l.toNat>>>4)<<<4) i) ^^(Nat.testBit l.toNat i&&Nat.testBit (2^4-1) i))=_
  rw [Nat.testBit_shiftLeft,Nat.testBit_shiftRight,Nat.testBit_two_pow_sub_one]
  by_cases h4:i<4
  ·rw [decide_eq_true h4,decide_eq_false (show ¬i≥4 by omega)];simp
  ·rw [decide_eq_false h4,decide_eq_true (show i≥4 by omega)]
   by_cases h64:i<64
   ·rw [decide_eq_true h64,show 4+(i-4)=i by omega];simp
   ·rw [decide_eq_false h64]
    have:Nat.testBit l.toNat i=false:=Nat.testBit_lt_two_pow (Nat.lt_of_lt_of_le l.toNat_lt (Nat.pow_le_pow_right (by decide) (by omega)))
    rw [this];simp
theorem z63 (e:El):hf4 e=((sh4 e).1^^^ze3 (e.2&&&15).toNat,(sh4 e).2):=by
  have hs:e=xr (e.1,(e.2>>>4)<<<4) (0,e.2&&&15):=by
    unfold xr
    refine Prod.ext ?_ ?_
    ·show e.1=e.1^^^0;rw [UInt64.xor_zero]
    ·exact (z49 e.2).symm
  have h15:=zr7 e.2
  have hq:UInt64.ofNat (e.2&&&15).toNat=e.2&&&15:=UInt64.ofNat_toNat
  have hsm:=zxv (e.2&&&15).toNat (by rw [h15];omega)
  rw [hq] at hsm
  have s2:(e.2>>>4).toNat=e.2.toNat/ 16:=zyc e.2 (k:=4) (by decide)
  have hl:=e.2.toNat_lt
  have s3:((e.2>>>4)<<<4).toNat=16*(e.2.toNat/ 16):=by
    rw [UInt64.toNat_shiftLeft,s2,Nat.shiftLeft_eq];show e.2.toNat/ 16*16%18446744073709551616=_;omega
  have hev:=z0k (e:=(e.1,(e.2>>>4)<<<4)) (by show ((e.2>>>4)<<<4).toNat%16=0;rw [s3];omega)
  have hsh:sh4 (e.1,(e.2>>>4)<<<4)=sh4 e:=by
    apply zvd
    rw [z2m,z2m]
    unfold toN
    rw [s3]
    show (e.1.toNat*_+_)/ 16=_
    omega
  conv=>lhs;rw [hs]
  rw [z8b,hsm,hev,hsh]
  unfold xr
  refine Prod.ext rfl ?_
  show (sh4 e).2^^^0=_
  rw [UInt64.xor_zero]
def zc4 (P:Nat→Bool):El→Nat→El
  |_,0=>z0
  |h,n+1=>xr (if P 0=true then h else z0) (zc4 (fun j=>P (j+1)) (y8 h) n)
theorem z30 (c:Bool) (h:El):y8 (if c=true then h else z0)=if c=true then y8 h else z0:=by
  cases c
  ·exact zzm
  ·rfl
theorem ziu (n:Nat): ∀(P:Nat→Bool) (h:El),y8 (zc4 P h n)=zc4 P (y8 h) n:=by
  induction n with
  |zero=>intro P h;exact zzm
  |succ n ih=>intro P h;simp only [zc4];rw [zwm,z30,ih]
theorem zyw (n:Nat): ∀(P:Nat→Bool) (h:El),zc4 P h (n+1)=xr (zc4 P h n) (if P n=true then (Nat.repeat y8 n h) else z0):=by
  induction n with
  |zero=>intro P h;simp only [zc4,Nat.repeat];rw [z79,yb5]
  |succ n ih=>
   intro P h
   have hr: ∀m (g:El),Nat.repeat y8 m (y8 g)=y8 (Nat.repeat y8 m g):=by
     intro m
     induction m with
     |zero=>intro g;rfl
     |succ m ihm=>intro g;simp only [Nat.repeat];rw [ihm]
   rw [zc4,ih,←zsv,hr]
   rfl
theorem zy8 (n:Nat) (P:Nat→Bool) (h:El):
    zc4 P h (n+4)=xr (hf4 (zc4 (fun j=>P (j+4)) h n)) (zc4 P h 4):=by
  have e:hf4 (zc4 (fun j=>P (j+4)) h n)=zc4 (fun j=>P (j+4)) (y8 (y8 (y8 (y8 h)))) n:=by
    unfold hf4;rw [ziu,ziu,ziu,ziu]
  rw [e,zo4]
  simp only [zc4]
  rw [z79]
  simp only [zsv]
theorem zi2 (n:Nat): ∀{P Q:Nat→Bool} (h:El),(∀j,j<n→P j=Q j)→zc4 P h n=zc4 Q h n:=by
  induction n with
  |zero=>intro P Q h _;rfl
  |succ n ih=>
   intro P Q h hp
   simp only [zc4]
   rw [hp 0 (by omega),ih (y8 h) (fun j hj=>hp (j+1) (by omega))]
def g6 (x:List UInt64) (i:Nat):UInt64:=x.getD i 0
def tbI (bit:Nat) (x:El) (T:List UInt64):Nat→List UInt64
  |0=>T
  |i+1=>if i&&&bit=0 then tbI bit x T i else ((tbI bit x T i).set (2*i) (g6 (tbI bit x T i) (2*i)^^^x.1)).set (2*i+1) (g6 ((tbI bit x T i).set (2*i) (g6 (tbI bit x T i) (2*i)^^^x.1)) (2*i+1)^^^x.2)
theorem zid (bit:Nat) (x:El) (T:List UInt64): ∀i,(tbI bit x T i).length=T.length
  |0=>rfl
  |i+1=>by
   simp only [tbI]
   split
   ·exact zid bit x T i
   ·rw [List.length_set,List.length_set];exact zid bit x T i
def ent (T:List UInt64) (d:Nat):El:=(g6 T (2*d),g6 T (2*d+1))
theorem zt8 {T:List UInt64} {i j:Nat} {v:UInt64} (h:j<T.length):g6 (T.set j v) i=if i=j then v else g6 T i:=by
  unfold g6
  by_cases e:i=j
  ·rw [if_pos e,e,List.getD_eq_getElem?_getD,List.getElem?_set_self h];rfl
  ·rw [if_neg e,List.getD_eq_getElem?_getD,List.getElem?_set_ne (by omega),←List.getD_eq_getElem?_getD]
theorem z4g {T:List UInt64} (hT:T.length=32) {n:Nat} (hn:n<16) (v w:UInt64) (d:Nat):ent ((T.set (2*n) v).set (2*n+1) w) d=if d=n then (v,w) else ent T d:=by
  have l2:(T.set (2*n) v).length=32:=by rw [List.length_set];exact hT
  have g1: ∀i,g6 ((T.set (2*n) v).set (2*n+1) w) i=if i=2*n+1 then w else if i=2*n then v else g6 T i:=fun i=>by
    rw [zt8 (by omega),zt8 (by omega)]
  unfold ent
  rw [g1,g1]
  by_cases e:d=n
  ·rw [if_pos e,e,if_neg (by omega),if_pos rfl,if_pos rfl]
  ·rw [if_neg e,if_neg (by omega),if_neg (by omega),if_neg (by omega),if_neg (by omega)]
theorem zvl {bit:Nat} {x:El} {T:List UInt64} (hT:T.length=32) {d:Nat} (hd:d<16): ∀n,n≤16→ent (tbI bit x T n) d=if d<n∧d&&&bit≠0 then xr (ent T d) x else ent T d
  |0,_=>by rw [if_neg (by omega)];rfl
  |n+1,hn=>by
   have ih:=zvl (bit:=bit) (x:=x) hT hd n (by omega)
   have hl:=(zid bit x T n).trans hT
   by_cases hb:n&&&bit=0
   ·have e:tbI bit x T (n+1)=tbI bit x T n:=by simp only [tbI];rw [if_pos hb]
    rw [e,ih]
    by_cases hdn:d=n
    ·rw [if_neg (fun hh=>hh.2 (by rw [hdn];exact hb)),if_neg (fun hh=>hh.2 (by rw [hdn];exact hb))]
    ·by_cases hc:d<n∧d&&&bit≠0
     ·rw [if_pos hc,if_pos ⟨by omega,hc.2⟩]
     ·rw [if_neg hc,if_neg (fun hh=>hc ⟨by omega,hh.2⟩)]
   ·have e:tbI bit x T (n+1)=((tbI bit x T n).set (2*n) (g6 (tbI bit x T n) (2*n)^^^x.1)).set (2*n+1) (g6 ((tbI bit x T n).set (2*n) (g6 (tbI bit x T n) (2*n)^^^x.1)) (2*n+1)^^^x.2):=by simp only [tbI];rw [if_neg hb]
    have g1:g6 ((tbI bit x T n).set (2*n) (g6 (tbI bit x T n) (2*n)^^^x.1)) (2*n+1)=g6 (tbI bit x T n) (2*n+1):=by
      rw [zt8 (by omega),if_neg (by omega)]
    rw [e,g1,z4g hl (by omega)]
    by_cases hdn:d=n
    ·rw [if_pos hdn,if_pos ⟨by omega,by rw [hdn];exact hb⟩]
     rw [if_neg (by omega)] at ih
     rw [←ih,hdn]
     rfl
    ·rw [if_neg hdn,ih]
     by_cases hc:d<n∧d&&&bit≠0
     ·rw [if_pos hc,if_pos ⟨by omega,hc.2⟩]
     ·rw [if_neg hc,if_neg (fun hh=>hc ⟨by omega,hh.2⟩)]
def tbO (h:El):Nat→List UInt64
  |0=>List.replicate 32 0
  |k+1=>tbI (8/ 2^k) (Nat.repeat y8 k h) (tbO h k) 16
theorem zkh (h:El): ∀k,(tbO h k).length=32
  |0=>rfl
  |k+1=>by rw [tbO,zid];exact zkh h k
def tb (h:El):List UInt64:=tbO h 4
theorem z8v (h:El):(tb h).length=32:=zkh h 4
theorem z4u (h:El) {d:Nat} (hd:d<16) (k:Nat):ent (tbO h (k+1)) d=xr (ent (tbO h k) d) (if d&&&(8/ 2^k)≠0 then Nat.repeat y8 k h else z0):=by
  rw [tbO,zvl (zkh h k) hd 16 (Nat.le_refl _)]
  by_cases hc:d&&&(8/ 2^k)≠0
  ·rw [if_pos ⟨hd,hc⟩,if_pos hc]
  ·rw [if_neg (fun hh=>hc hh.2),if_neg hc,z79]
def dig (d j:Nat):Bool:=decide (d/ 2^(3-j)%2=1)
theorem z52: ∀d,d<16→ ∀k,k<4→(dig d k=true↔d&&&(8/ 2^k)≠0):=by decide
theorem ych (h:El): ∀d,d<16→ent (List.replicate 32 0) d=z0:=by decide
theorem z7g (h:El) {d:Nat} (hd:d<16):ent (tb h) d=zc4 (dig d) h 4:=by
  have hs: ∀k,k≤4→ent (tbO h k) d=zc4 (dig d) h k:=by
    intro k
    induction k with
    |zero=>intro _;exact ych h d hd
    |succ k ih=>
     intro hk
     rw [z4u h hd,zyw,ih (by omega)]
     congr 1
     have:=z52 d hd k (by omega)
     by_cases hc:d&&&(8/ 2^k)≠0
     ·rw [if_pos hc,if_pos (this.2 hc)]
     ·rw [if_neg hc,if_neg (fun hh=>hc (this.1 hh))]
  exact hs 4 (Nat.le_refl _)
def fl:List UInt64:=(List.range 16).map ze3
def zhy (x:El) (i:Nat):UInt64:=if 16≤i then x.1>>>UInt64.ofNat (4*(i%16))&&&15 else x.2>>>UInt64.ofNat (4*(i%16))&&&15
def stp (T F:List UInt64) (z:El) (d:UInt64):El:=
  (z.1>>>4^^^g6 F (z.2&&&15).toNat^^^g6 T (2*d.toNat),(z.2>>>4|||z.1<<<60)^^^g6 T (2*d.toNat+1))
def zjs (T F:List UInt64) (x:El):Nat→El
  |0=>z0
  |i+1=>stp T F (zjs T F x i) (zhy x i)
def zgd (T F:List UInt64) (x:El):El:=zjs T F x 32
theorem zms (x:El) (i:Nat):(zhy x i).toNat<16:=by
  unfold zhy
  split<;>(rw [zr7];omega)
theorem z8n (h z:El) {d:UInt64} (hd:d.toNat<16):stp (tb h) fl z d=xr (hf4 z) (zc4 (dig d.toNat) h 4):=by
  have hf:g6 fl (z.2&&&15).toNat=ze3 (z.2&&&15).toNat:=by
    unfold g6 fl
    rw [zni _ _ (by rw [zr7];omega)]
  rw [←z7g h hd,z63]
  unfold stp
  rw [hf]
  generalize ze3 (z.2&&&15).toNat=f
  generalize tb h=T
  unfold xr ent sh4
  rfl
def zng (a:El) (j:Nat):Bool:=if 63<j then decide (a.2.toNat/ 2^(127-j)%2=1) else decide (a.1.toNat/ 2^(63-j)%2=1)
def ztg (h a:El):El:=zc4 (zng a) h 128
theorem z5e (x:El) {i j:Nat} (hi:i<32) (hj:j<4):dig (zhy x i).toNat j=zng x (124-4*i+j):=by
  have hw: ∀(y:UInt64) (k m:Nat),k<64→m<4→((y>>>UInt64.ofNat k&&&15).toNat)/ 2^m%2=y.toNat/ 2^(k+m)%2:=by
    intro y k m hk hm
    rw [zr7,zyc y hk,Nat.pow_add,←Nat.div_div_eq_div_mul]
    generalize y.toNat/ 2^k=q
    have:m=0∨m=1∨m=2∨m=3:=by omega
    rcases this with rfl|rfl|rfl|rfl
    ·show q%16/ 1%2=q/ 1%2;omega
    ·show q%16/ 2%2=q/ 2%2;omega
    ·show q%16/ 4%2=q/ 4%2;omega
    ·show q%16/ 8%2=q/ 8%2;omega
  unfold dig zng zhy
  by_cases h16:16≤i
  ·rw [if_pos h16,if_neg (by omega),hw _ _ _ (by omega) (by omega),show 4*(i%16)+(3-j)=63-(124-4*i+j) by omega]
  ·rw [if_neg h16,if_pos (by omega),hw _ _ _ (by omega) (by omega),show 4*(i%16)+(3-j)=127-(124-4*i+j) by omega]
theorem z03 (h x:El): ∀i,i≤32→zjs (tb h) fl x i=zc4 (fun j=>zng x (128-4*i+j)) h (4*i)
  |0,_=>rfl
  |i+1,hi=>by
   rw [zjs,z8n h _ (zms x i),z03 h x i (by omega)]
   refine Eq.trans ?_ (zy8 (4*i) (fun j=>zng x (128-4*(i+1)+j)) h).symm
   refine congr (congrArg xr (congrArg hf4 ?_)) ?_
   ·refine zi2 _ h fun j hj=>?_
    show zng x _=zng x _
    congr 1;omega
   ·refine zi2 _ h fun j hj=>?_
    show dig _ j=zng x _
    rw [z5e x (by omega) hj]
    congr 1;omega
theorem zvq (h x:El):zgd (tb h) fl x=ztg h x:=by
  unfold zgd ztg
  rw [z03 h x 32 (Nat.le_refl _)]
  refine zi2 _ h fun j hj=>?_
  show zng x _=zng x _
  congr 1;omega
end Go.Sym.Gcm

namespace Go.Sym.Gcm
open Go.Sym.Lp Go.Sym.Aes
def ldE (s:List UInt8):Nat→El
  |0=>z0
  |i+1=>((ldE s i).1<<<8|||(s.getD i 0).toUInt64,(ldE s i).2<<<8|||(s.getD (8+i) 0).toUInt64)
def ld (s:List UInt8):El:=ldE s 8
def z34 (f g:Nat→UInt8):Nat→List UInt8
  |0=>List.replicate 16 0
  |i+1=>((z34 f g i).set i (f i)).set (8+i) (g i)
theorem zsw (f g:Nat→UInt8): ∀i,(z34 f g i).length=16
  |0=>rfl
  |i+1=>by simp only [z34,List.length_set];exact zsw f g i
def zl8 (e:El) (i:Nat):List UInt8:=z34 (fun i=>(e.1>>>UInt64.ofNat (56-8*i)).toUInt8) (fun i=>(e.2>>>UInt64.ofNat (56-8*i)).toUInt8) i
theorem zr1 (e:El) (i:Nat):(zl8 e i).length=16:=zsw _ _ i
theorem z8c (e:El) (i:Nat):zl8 e (i+1)=((zl8 e i).set i (e.1>>>UInt64.ofNat (56-8*i)).toUInt8).set (8+i) (e.2>>>UInt64.ofNat (56-8*i)).toUInt8:=rfl
def wr (e:El):List UInt8:=zl8 e 8
theorem zq2 (e:El):(wr e).length=16:=zr1 e 8
def ctr (nonce:List UInt8) (n:UInt32):List UInt8:=nonce++ [(n>>>24).toUInt8,(n>>>16).toUInt8,(n>>>8).toUInt8,n.toUInt8]
theorem zqk {nonce:List UInt8} (h:nonce.length=12) (n:UInt32):(ctr nonce n).length=16:=by unfold ctr;simp [h]
def zqn (nonce:List UInt8) (n:UInt32):Nat→List UInt8
  |0=>nonce++ [0,0,0,0]
  |i+1=>(zqn nonce n i).set (15-i) (n>>>UInt32.ofNat (8*i)).toUInt8
theorem zrx {nonce:List UInt8} (h:nonce.length=12) (n:UInt32): ∀i,(zqn nonce n i).length=16
  |0=>by simp [zqn,h]
  |i+1=>by simp only [zqn,List.length_set];exact zrx h n i
theorem z1v {x:List UInt8} (h:x.length=12): ∃a0 a1 a2 a3 a4 a5 a6 a7 a8 a9 b0 b1,x= [a0,a1,a2,a3,a4,a5,a6,a7,a8,a9,b0,b1]:=by
  match x,h with
  | [a0,a1,a2,a3,a4,a5,a6,a7,a8,a9,b0,b1],_=>exact ⟨a0,a1,a2,a3,a4,a5,a6,a7,a8,a9,b0,b1,rfl⟩
theorem z1x {nonce:List UInt8} (h:nonce.length=12) (n:UInt32):zqn nonce n 4=ctr nonce n:=by
  obtain ⟨a0,a1,a2,a3,a4,a5,a6,a7,a8,a9,b0,b1,rfl⟩:=z1v h
  have e:(n>>>UInt32.ofNat (8*0)).toUInt8=n.toUInt8:=by
    have:n>>>UInt32.ofNat (8*0)=n:=UInt32.shiftRight_zero
    rw [this]
  show [a0,a1,a2,a3,a4,a5,a6,a7,a8,a9,b0,b1,_,_,_,(n>>>UInt32.ofNat (8*0)).toUInt8]=_
  rw [e]
  rfl
def za0 (l:List UInt8):List UInt8:=l++List.replicate (16-l.length) 0
theorem zuf {l:List UInt8} (h:l.length=16):za0 l=l:=by unfold za0;rw [h];simp
def zgy (T F:List UInt64) (y:El) (B:List UInt8):Nat→El
  |0=>y
  |t+1=>zgd T F (xr (ld (za0 ((B.drop (16*t)).take 16))) (zgy T F y B t))
def gaB (T F:List UInt64) (y:El) (B:List UInt8):El:=zgy T F y B ((B.length+15)/ 16)
def zne (h:El) (s:List UInt8):Nat→El
  |0=>z0
  |t+1=>ztg h (xr (zne h s t) (ld ((s.drop (16*t)).take 16)))
def zal (n:Nat):List UInt8:=List.replicate ((16-n%16)%16) 0
theorem zi3 (n:Nat):(zal n).length=(16-n%16)%16:=List.length_replicate
theorem zpo (h:El) (A B C:List UInt8) (y:El) {n:Nat} (hA:A.length=16*n) (hy:y=zne h (A++(B++zal B.length)++C) n): ∀t,t≤(B.length+15)/ 16→
    zgy (tb h) fl y B t=zne h (A++(B++zal B.length)++C) (n+t)
  |0,_=>hy
  |t+1,ht=>by
   have ih:=zpo h A B C y hA hy t (by omega)
   show zgd (tb h) fl (xr (ld (za0 ((B.drop (16*t)).take 16))) (zgy (tb h) fl y B t))=ztg h (xr (zne h (A++(B++zal B.length)++C) (n+t)) (ld (((A++(B++zal B.length)++C).drop (16*(n+t))).take 16)))
   rw [ih,zvq,zo4]
   congr 3
   have hfl:=zi3 B.length
   have e1:(A++(B++zal B.length)++C).drop (16*(n+t))=(B++zal B.length).drop (16*t)++C:=by
     rw [List.append_assoc,show 16*(n+t)=A.length+16*t by omega,List.drop_append]
     have h1:List.drop (A.length+16*t) A= []:=List.drop_eq_nil_of_le (by omega)
     rw [h1,List.nil_append,show A.length+16*t-A.length=16*t by omega,List.drop_append_of_le_length (by rw [List.length_append,hfl];omega)]
   have hl2:((B++zal B.length).drop (16*t)).length=B.length+(zal B.length).length-16*t:=by rw [List.length_drop,List.length_append]
   rw [e1,List.take_append_of_le_length (by rw [hl2,hfl];omega)]
   unfold za0
   by_cases h16:16*t+16≤B.length
   ·rw [List.drop_append_of_le_length (by omega),List.take_append_of_le_length (by rw [List.length_drop];omega)]
    rw [show 16-((B.drop (16*t)).take 16).length=0 by rw [List.length_take,List.length_drop];omega]
    simp
   ·have e2:(B.drop (16*t)).take 16=B.drop (16*t):=List.take_of_length_le (by rw [List.length_drop];omega)
    rw [e2,List.drop_append_of_le_length (by omega),List.take_of_length_le (by rw [List.length_append,List.length_drop,hfl];omega)]
    unfold zal
    rw [List.length_drop]
    congr 2
    omega
def z15 (aad b:List UInt8):List UInt8:=aad++zal aad.length++(b++zal b.length)++wr (UInt64.ofNat (8*aad.length),UInt64.ofNat (8*b.length))
def gN (aad b:List UInt8):Nat:=(aad.length+15)/ 16+(b.length+15)/ 16+1
theorem z7o (h:El) (aad b:List UInt8):
    zgd (tb h) fl (xr (ld (wr (UInt64.ofNat (8*aad.length),UInt64.ofNat (8*b.length)))) (gaB (tb h) fl (gaB (tb h) fl z0 aad) b))=zne h (z15 aad b) (gN aad b):=by
  obtain ⟨L,hL⟩: ∃L,L=wr (UInt64.ofNat (8*aad.length),UInt64.ofNat (8*b.length)):=⟨_,rfl⟩
  have hLl:L.length=16:=by rw [hL];exact zq2 _
  have h1:=zi3 aad.length
  have h2:=zi3 b.length
  have p1:=zpo h [] aad ((b++zal b.length)++L) z0 (n:=0) rfl rfl ((aad.length+15)/ 16) (Nat.le_refl _)
  have hA:(aad++zal aad.length).length=16*((aad.length+15)/ 16):=by rw [List.length_append,h1];omega
  have e1: []++(aad++zal aad.length)++((b++zal b.length)++L)=aad++zal aad.length++(b++zal b.length)++L:=by
    rw [List.nil_append,List.append_assoc (aad++zal aad.length)]
  rw [e1,Nat.zero_add] at p1
  have p2:=zpo h (aad++zal aad.length) b L (gaB (tb h) fl z0 aad) (n:=(aad.length+15)/ 16) hA p1 ((b.length+15)/ 16) (Nat.le_refl _)
  have hT:z15 aad b=aad++zal aad.length++(b++zal b.length)++L:=by unfold z15;rw [hL]
  rw [←hL,hT]
  show _=ztg h (xr (zne h _ ((aad.length+15)/ 16+(b.length+15)/ 16)) (ld ((List.drop (16*((aad.length+15)/ 16+(b.length+15)/ 16)) _).take 16)))
  rw [←p2,zvq,zo4]
  have hd:List.drop (16*((aad.length+15)/ 16+(b.length+15)/ 16)) (aad++zal aad.length++(b++zal b.length)++L)=L:=by
    apply List.drop_left'
    simp only [List.length_append]
    omega
  rw [hd,List.take_of_length_le (by omega)]
  rfl
end Go.Sym.Gcm

namespace Go.Sym.Z
open Go Go.Proofs.Tryz Go.Sym.Lp Go.Sym.Gcm
set_option maxRecDepth 100000
attribute [local irreducible] ldE zl8
def yaq:List (Nat×List PStep):= [(5,[⟨0,[]⟩,⟨1,[]⟩,⟨2,[]⟩,⟨3,[0,1,2]⟩,⟨4,[0,1,2,3]⟩,⟨5,[0,1,2]⟩,⟨6,[0,1,2]⟩,⟨7,[0,1,2]⟩,⟨8,[]⟩,⟨9,[]⟩,⟨10,[]⟩]),(6,[⟨0,[]⟩,⟨1,[]⟩,⟨2,[]⟩,⟨3,[0,1,2]⟩,⟨4,[0,1,2,3]⟩,⟨5,[0,1,2,3]⟩,⟨6,[0,1,2]⟩,⟨7,[0,1,2]⟩,⟨8,[0,1,2]⟩,⟨9,[]⟩,⟨10,[]⟩,⟨11,[]⟩])]
def z97:List (Nat×List PStep):= []
def z9j:List (Nat×List PStep):= [(5,[⟨0,[]⟩,⟨1,[0]⟩,⟨2,[0]⟩,⟨3,[0,1,2]⟩,⟨4,[0,1,2]⟩,⟨5,[0,1,2,3,4]⟩,⟨6,[0,1,2,3,4]⟩,⟨7,[0,1,2,3,4]⟩,⟨8,[0,1,2]⟩,⟨9,[0,1,2]⟩,⟨10,[0,1,2,3,4,5,6,7,8,9]⟩,⟨11,[0,1,2,3,4,5,6,7,8,9]⟩,⟨12,[0,1,2,3,4,5,6,7,8,9,10,11]⟩,⟨13,[0,1,2,3,4,5,6,7,8,9,10,11]⟩,⟨14,[0,1,2,3,4,5,6,7,8,9,10,11]⟩,⟨15,[0,1,2,3,4,5,6,7,8,9]⟩,⟨16,[0,1,2,3,4,5,6,7,8,9]⟩,⟨17,[1,2,10,11,12,13,14,15,16]⟩,⟨18,[1,2,10,11,12,13,14,15,16]⟩,⟨19,[]⟩,⟨20,[]⟩])]
def ybl:List (Nat×TyI):= [(3,ty3),(4,ty4),(5,ty5),(9,ty9),(48,zcp),(99,x3),(113,x4),(51,zco),(168,zc9),(183,zbo),(201,zfk),(195,zfo),(198,zge),(199,zgh),(186,zez),(134,zeq),(178,zd4),(216,zdz),(214,zd3),(212,zdn)]
theorem xn: ∀t i,y3 ybl t=some i→yp prog t i:=(zc ty3_ok (zc zbm (zc zbe (zc ty9_ok (zc zak (zc za7 (zc zai (zc zam (zc zh9 (zc zsk (zc z2l (zc z08 (zc zy3 (zc z3p (zc zro (zc zrn (zc zll (zc zk7 (zc zmi (zc zmp x1))))))))))))))))))))
def zua:Spec:=fun args hp K=>match args,hp with
  | [.sl 0 0 0 o n c],[.mk t [.arr8 m l]]=>Pre (16≤n∧off o+n≤l.length) (K (.agg [.u64 (ld ((l.drop (off o)).take 16)).1,.u64 (ld ((l.drop (off o)).take 16)).2]) [.mk t [.arr8 m l]])
  |_,_=>False
theorem zu7:zp prog 136 zua:=by
  refine zn xn zl rfl func136 rfl call136 (D:=yaq) ?_ ?_
  ·intro args hp K h
   unfold zua at h
   split at h
   ·exact Nat.le_of_ble_eq_true rfl
   ·exact h.elim
  ·intro args hp K h
   unfold zua at h
   split at h
   ·rename_i o n c t m l
    obtain ⟨⟨hn,hl⟩,h⟩:=zm h
    refine za ?_
    refine zz (Ix (8)) (fun q=>⟨[(0,.sl 0 0 0 o n c),(2,.ptr 1 0 0 []),(3,.ptr 2 0 0 []),(5,.int q.i)],[.mk t [.arr8 m l],.mk 183 [.u64 0,.u64 0],.mk 183 [.u64 (ldE ((l.drop (off o)).take 16) q.i).1,.u64 (ldE ((l.drop (off o)).take 16) q.i).2]]⟩) (fun q=>(8)-q.i) ⟨0,Nat.zero_le _⟩ [0,1,2] ?_ ?_
    ·repeat ((conv=>whnf);refine zb ?_)
     conv=>whnf
     exact zx (congrArg (fun e:El=>SV.agg [SV.u64 e.1,SV.u64 e.2]) (show z0=ldE _ 0 by unfold ldE;rfl))
    ·intro q
     have hi:=q.hi
     have hA:off (yb o ((q.i:Int)).toNat ty5.sz)=off o+q.i:=by rw [zy];show off o+((q.i:Int)).toNat*1=_;omega
     have hB:off (yb o ((8:Int)+(q.i:Int)).toNat ty5.sz)=off o+(8+q.i):=by rw [zy];show off o+((8:Int)+(q.i:Int)).toNat*1=_;omega
     by_cases h4:q.i<8
     ·refine za ?_
      refine ⟨⟨q.i+1,h4⟩,[0,1,2],by show (8)-(q.i+1)<(8)-q.i;omega,?_⟩
      repeat ((conv=>whnf);refine zb ?_)
      conv=>whnf
      exact zx (congrArg (fun e:El=>SV.agg [SV.u64 e.1,SV.u64 e.2]) (show (_,_)=ldE ((l.drop (off o)).take 16) (q.i+1) by simp only [ldE];rw [zio (by omega),zio (by omega),←hA,←hB];rfl))
     ·have e4:q.i=8:=by omega
      rw [e4]
      refine za ?_
      exact zh [0] h
   ·exact h.elim
def zt1:Spec:=fun args hp K=>match args,hp with
  | [.agg [.u64 a,.u64 b]],[]=>K (.agg [.u64 (y8 (a,b)).1,.u64 (y8 (a,b)).2]) []
  |_,_=>False
theorem z5x:zp prog 166 zt1:=by
  refine zn xn zl rfl func166 rfl call166 (D:=z97) ?_ ?_
  ·intro args hp K h
   unfold zt1 at h
   split at h
   ·exact Nat.le_of_ble_eq_true rfl
   ·exact h.elim
  ·intro args hp K h
   unfold zt1 at h
   split at h
   ·rename_i a b
    refine za ?_
    conv=>whnf
    exact zh [] h
   ·exact h.elim
def zp3:Spec:=fun args hp K=>match args,hp with
  | [.agg [.u64 a,.u64 b]],[]=>K (.arr8 16 (wr (a,b))) []
  |_,_=>False
theorem z0b:zp prog 148 zp3:=by
  refine zn xn zl rfl func148 rfl call148 (D:=z9j) ?_ ?_
  ·intro args hp K h
   unfold zp3 at h
   split at h
   ·exact Nat.le_of_ble_eq_true rfl
   ·exact h.elim
  ·intro args hp K h
   unfold zp3 at h
   split at h
   ·rename_i a b
    refine za ?_
    refine zz (Ix (8)) (fun q=>⟨[(0,.agg [.u64 a,.u64 b]),(1,.ptr 0 0 0 []),(2,.ptr 1 0 0 []),(3,.ptr 2 0 0 []),(5,.int q.i)],[.mk 183 [.u64 a,.u64 b],.mk 168 [.arr8 16 (List.replicate 16 0)],.mk 168 [.arr8 16 (zl8 (a,b) q.i)]]⟩) (fun q=>(8)-q.i) ⟨0,Nat.zero_le _⟩ [0,1,2] ?_ ?_
    ·repeat ((conv=>whnf);refine zb ?_)
     conv=>whnf
     exact zx (congrArg (fun x=>SV.agg [SV.arr8 16 x]) (show List.replicate 16 0=zl8 (a,b) 0 by unfold zl8;rfl))
    ·intro q
     have hi:=q.hi
     have hl:=zr1 (a,b) q.i
     have hA:off (yb [] ((q.i:Int)).toNat ty5.sz)=q.i:=by rw [zy];show 0+((q.i:Int)).toNat*1=_;omega
     have hB:off (yb [] ((8:Int)+(q.i:Int)).toNat ty5.sz)=(8+q.i):=by rw [zy];show 0+((8:Int)+(q.i:Int)).toNat*1=_;omega
     have hK:((56:Int)-8*(q.i:Int)).toNat=56-8*q.i:=by omega
     by_cases h4:q.i<8
     ·refine za ?_
      refine ⟨⟨q.i+1,h4⟩,[0,1,2],by show (8)-(q.i+1)<(8)-q.i;omega,?_⟩
      repeat ((conv=>whnf);refine zb ?_)
      conv=>whnf
      exact zx (congrArg (fun x=>SV.agg [SV.arr8 16 x]) (show _=zl8 (a,b) (q.i+1) by rw [z8c,hA,hB,hK]))
     ·have e4:q.i=8:=by omega
      rw [e4]
      refine za ?_
      exact zh [] h
   ·exact h.elim
end Go.Sym.Z

namespace Go.Sym.Z
open Go Go.Proofs.Tryz Go.Sym.Lp Go.Sym.Gcm
set_option maxRecDepth 100000
attribute [local irreducible] ldE zl8 ld y8 hf4 ze3
def yax:List (Nat×List PStep):= [(2,[⟨0,[]⟩,⟨1,[0]⟩,⟨2,[0]⟩,⟨3,[]⟩]),(9,[⟨0,[]⟩,⟨1,[0]⟩,⟨2,[1]⟩,⟨3,[1]⟩,⟨4,[]⟩,⟨5,[]⟩,⟨6,[]⟩,⟨7,[0,1,2,3,4,5,6]⟩,⟨8,[0,1,2,3,4,5,6]⟩,⟨9,[]⟩,⟨10,[1,2,3,4,5,6,7,8,9]⟩,⟨11,[1,2,3,4,5,6,7,8,9]⟩,⟨12,[]⟩,⟨13,[]⟩,⟨14,[]⟩]),(10,[⟨0,[]⟩,⟨1,[0]⟩,⟨2,[1]⟩,⟨3,[1]⟩,⟨4,[]⟩,⟨5,[]⟩,⟨6,[]⟩,⟨7,[0,1,2,3,4,5,6]⟩,⟨8,[0,1,2,3,4,5,6]⟩,⟨9,[]⟩,⟨10,[1,2,3,4,5,6,7,8,9]⟩,⟨11,[1,2,3,4,5,6,7,8,9]⟩,⟨12,[]⟩,⟨13,[]⟩,⟨14,[]⟩]),(22,[⟨0,[]⟩,⟨1,[0]⟩,⟨2,[0,1]⟩,⟨3,[0,1]⟩,⟨4,[1,2,3]⟩,⟨5,[1,2,3]⟩,⟨6,[]⟩,⟨7,[]⟩])]
def z86:List (Nat×List PStep):= [(1,[⟨0,[]⟩,⟨1,[]⟩,⟨2,[0,1]⟩,⟨3,[0,1]⟩,⟨4,[0,1]⟩,⟨5,[0,1]⟩,⟨6,[0,1]⟩,⟨7,[]⟩,⟨8,[]⟩,⟨9,[]⟩]),(2,[⟨0,[]⟩,⟨1,[]⟩,⟨2,[0,1]⟩,⟨3,[0,1]⟩,⟨4,[0,1]⟩,⟨5,[0,1]⟩,⟨6,[0,1]⟩,⟨7,[]⟩,⟨8,[]⟩,⟨9,[]⟩]),(10,[⟨0,[]⟩,⟨1,[]⟩,⟨2,[]⟩,⟨3,[0,1,2]⟩,⟨4,[0,1,2,3]⟩,⟨5,[0,1,2,3]⟩,⟨6,[0,1,2,3]⟩,⟨7,[0,1,2,4,5,6]⟩,⟨8,[0,1,2,4,5,6]⟩,⟨9,[0,1,2]⟩,⟨10,[0,1,2]⟩,⟨11,[]⟩,⟨12,[0,1,2,3,4,5,6,7,8,9,10,11]⟩,⟨13,[0,1,2,3,4,5,6,7,8,9,10,11]⟩,⟨14,[0,1,2,3,4,5,6,7,8,9,10,11]⟩,⟨15,[0,1,2,3,4,5,6,7,8,9,10,11,12,13,14]⟩,⟨16,[0,1,2,3,4,5,6,7,8,9,10,11,12,13,14]⟩,⟨17,[0,1,2,3,4,5,6,7,8,9,10,11,12,13,14]⟩,⟨18,[0,1,2,3,4,5,6,7,8,9,10,11]⟩,⟨19,[]⟩,⟨20,[]⟩]),(11,[⟨0,[]⟩,⟨1,[]⟩,⟨2,[0,1]⟩,⟨3,[0,1,2]⟩,⟨4,[0,1,3]⟩,⟨5,[0,1,3]⟩,⟨6,[0,1]⟩,⟨7,[0,1]⟩,⟨8,[0,1]⟩,⟨9,[]⟩,⟨10,[]⟩,⟨11,[]⟩]),(12,[⟨0,[]⟩,⟨1,[]⟩,⟨2,[0,1]⟩,⟨3,[0,1,2]⟩,⟨4,[0,1,3]⟩,⟨5,[0,1,3]⟩,⟨6,[0,1]⟩,⟨7,[0,1]⟩,⟨8,[0,1]⟩,⟨9,[]⟩,⟨10,[]⟩,⟨11,[]⟩])]
theorem zyl: ∀k,k<4→ ∀i:Nat,i<16→zbg .and (i:Int) ((8/ 2^k:Nat):Int)=((i&&&8/ 2^k:Nat):Int):=by decide+kernel
theorem zwe (n:Nat):UInt64.ofInt (n:Int)=UInt64.ofNat n:=by
  apply UInt64.toNat_inj.1
  unfold UInt64.ofInt
  rw [UInt64.toNat_ofNat',UInt64.toNat_ofNat']
  omega
def z0g:Spec:=fun args hp K=>match args,hp with
  | [.agg [.u64 a,.u64 b]],[]=>K (.ptr 0 0 0 []) [.mk 201 [.arr64 32 (tb (a,b)),.arr64 16 fl,.u64 0,.u64 0]]
  |_,_=>False
set_option maxHeartbeats 4000000 in
theorem z60:zp prog 146 z0g:=by
  refine zn xn (zd z5x zl) rfl func146 rfl call146 (D:=yax) ?_ ?_
  ·intro args hp K h
   unfold z0g at h
   split at h
   ·exact Nat.le_of_ble_eq_true rfl
   ·exact h.elim
  ·intro args hp K h
   unfold z0g at h
   split at h
   ·rename_i a b
    refine za ?_
    refine zz (Ix (4)) (fun q=>⟨[(3,.ptr 1 0 0 []),(4,.int ((8/ 2^q.i:Nat):Int)),(5,.ptr 2 0 0 [])],[.mk 183 [.u64 a,.u64 b],.mk 201 [.arr64 32 (tbO (a,b) q.i),.arr64 16 (List.replicate 16 0),.u64 0,.u64 0],.mk 183 [.u64 (Nat.repeat y8 q.i (a,b)).1,.u64 (Nat.repeat y8 q.i (a,b)).2]]⟩) (fun q=>(4)-q.i) ⟨0,Nat.zero_le _⟩ [0,1,2] ?_ ?_
    ·exact zu
    ·intro q
     have hi:=q.hi
     by_cases h4:q.i<4
     ·have hb:0<8/ 2^q.i:=by
        have:q.i=0∨q.i=1∨q.i=2∨q.i=3:=by omega
        rcases this with e|e|e|e<;>rw [e]<;>decide
      generalize hB:8/ 2^q.i=bit at*
      refine za ?_
      obtain ⟨bn,hbn⟩: ∃bn,bn=8/ 2^(q.i+1):=⟨_,rfl⟩
      have hb8:bn≤8:=by rw [hbn];exact Nat.div_le_self _ _
      have hbt:(bit:Int).tdiv 2=(bn:Int):=by
        rw [hbn,Int.tdiv_eq_ediv_of_nonneg (by omega),Nat.pow_succ,←Nat.div_div_eq_div_mul,hB]
        omega
      have hand: ∀i:Nat,i<16→zbg .and (i:Int) (bit:Int)=((i&&&bit:Nat):Int):=by rw [←hB];exact zyl q.i h4
      refine zz (Ix (16)) (fun r=>⟨[(3,.ptr 1 0 0 []),(4,.int (bit:Int)),(5,.ptr 2 0 0 []),(18,.int r.i)],[.mk 183 [.u64 a,.u64 b],.mk 201 [.arr64 32 (tbI bit (Nat.repeat y8 q.i (a,b)) (tbO (a,b) q.i) r.i),.arr64 16 (List.replicate 16 0),.u64 0,.u64 0],.mk 183 [.u64 (Nat.repeat y8 q.i (a,b)).1,.u64 (Nat.repeat y8 q.i (a,b)).2]]⟩) (fun r=>(16)-r.i) ⟨0,Nat.zero_le _⟩ [0,1,2] ?_ ?_
      ·exact zu
      ·intro r
       have hri:=r.hi
       have hlr:=(zid bit (Nat.repeat y8 q.i (a,b)) (tbO (a,b) q.i) r.i).trans (zkh (a,b) q.i)
       have hA:off (yb [] ((r.i:Int)).toNat zbo.sz)=2*r.i:=by rw [zy];show 0+((r.i:Int)).toNat*2=_;omega
       have hA2:off (yb (yb [] ((r.i:Int)).toNat zbo.sz) (0+1) 1)=2*r.i+1:=by rw [zy,hA]
       by_cases h5:r.i<16
       ·have hbb:=hand r.i h5
        by_cases h6:r.i&&&bit=0
        ·have hd:decide (zbg .and (r.i:Int) (bit:Int)≠0)=false:=decide_eq_false (by rw [hbb,h6];simp)
         repeat ((conv=>whnf);first|refine zo ?_|refine zf ?_|refine zg ?_|refine zb ?_|refine zr (by first|exact hd) ?_|refine zi (by first|exact hd) ?_|refine zj (by first|exact hd) ?_)
         conv=>whnf
         refine ⟨⟨r.i+1,h5⟩,[0,1,2],by show (16)-(r.i+1)<(16)-r.i;omega,?_⟩
         repeat ((conv=>whnf);refine zb ?_)
         conv=>whnf
         exact zx (congrArg (fun x=>SV.agg [SV.arr64 32 x,SV.arr64 16 (List.replicate 16 0),SV.u64 0,SV.u64 0]) (show tbI bit (Nat.repeat y8 q.i (a,b)) (tbO (a,b) q.i) r.i=tbI bit (Nat.repeat y8 q.i (a,b)) (tbO (a,b) q.i) (r.i+1) by simp only [tbI];rw [if_pos h6]))
        ·have hd:decide (zbg .and (r.i:Int) (bit:Int)≠0)=true:=decide_eq_true (by rw [hbb];omega)
         repeat ((conv=>whnf);first|refine zo ?_|refine zf ?_|refine zg ?_|refine zb ?_|refine zr (by first|exact hd) ?_|refine zi (by first|exact hd) ?_|refine zj (by first|exact hd) ?_)
         conv=>whnf
         conv=>whnf
         refine ⟨⟨r.i+1,h5⟩,[0,1,2],by show (16)-(r.i+1)<(16)-r.i;omega,?_⟩
         repeat ((conv=>whnf);refine zb ?_)
         conv=>whnf
         exact zx (congrArg (fun x=>SV.agg [SV.arr64 32 x,SV.arr64 16 (List.replicate 16 0),SV.u64 0,SV.u64 0]) (show _=tbI bit (Nat.repeat y8 q.i (a,b)) (tbO (a,b) q.i) (r.i+1) by simp only [tbI];rw [if_neg h6,hA,hA2];rfl))
       ·have e5:r.i=16:=by omega
        rw [e5]
        have hp2:(2:Int)≠0∧yn ((bit:Int).tdiv 2):=⟨by decide,by rw [hbt];unfold yn;omega⟩
        refine za ?_
        conv=>whnf
        refine ⟨⟨q.i+1,h4⟩,[0,1,3],by show (4)-(q.i+1)<(4)-q.i;omega,?_⟩
        repeat ((conv=>whnf);refine zb ?_)
        conv=>whnf
        refine yc (congrArg (fun x=>SV.agg [SV.arr64 32 x,SV.arr64 16 (List.replicate 16 0),SV.u64 0,SV.u64 0]) (show tbI bit (Nat.repeat y8 q.i (a,b)) (tbO (a,b) q.i) 16=tbI (8/ 2^q.i) (Nat.repeat y8 q.i (a,b)) (tbO (a,b) q.i) 16 by rw [hB])) ?_
        repeat ((conv=>whnf);refine zb ?_)
        conv=>whnf
        exact zx (congrArg SV.int (show (bit:Int).tdiv 2=((8/ 2^(q.i+1):Nat):Int) by rw [hbt,hbn]))
     ·have e4:q.i=4:=by omega
      rw [e4]
      refine za ?_
      refine zz (Ix (16)) (fun r=>⟨[(3,.ptr 1 0 0 []),(55,.int r.i)],[.mk 183 [.u64 a,.u64 b],.mk 201 [.arr64 32 (tbO (a,b) 4),.arr64 16 (ovr (List.replicate 16 0) 0 ze3 r.i),.u64 0,.u64 0],.mk 183 [.u64 (Nat.repeat y8 4 (a,b)).1,.u64 (Nat.repeat y8 4 (a,b)).2]]⟩) (fun r=>(16)-r.i) ⟨0,Nat.zero_le _⟩ [0,1,2] ?_ ?_
      ·exact zu
      ·intro r
       have hri:=r.hi
       by_cases h5:r.i<16
       ·have hlo:=yr (l:=List.replicate 16 (0:UInt64)) (a:=0) (i:=r.i) (by rw [List.length_replicate];omega) ze3
        rw [List.length_replicate] at hlo
        have hI:((r.i:Int)).toNat=r.i:=Int.toNat_natCast _
        refine za ?_
        rw [zwe]
        refine zz (Ix (4)) (fun s=>⟨[(3,.ptr 1 0 0 []),(55,.int r.i),(7,.int r.i),(8,.ptr 3 0 0 []),(61,.int s.i)],[.mk 183 [.u64 a,.u64 b],.mk 201 [.arr64 32 (tbO (a,b) 4),.arr64 16 (ovr (List.replicate 16 0) 0 ze3 r.i),.u64 0,.u64 0],.mk 183 [.u64 (Nat.repeat y8 4 (a,b)).1,.u64 (Nat.repeat y8 4 (a,b)).2],.mk 183 [.u64 (Nat.repeat y8 s.i (0,UInt64.ofNat r.i)).1,.u64 (Nat.repeat y8 s.i (0,UInt64.ofNat r.i)).2]]⟩) (fun s=>(4)-s.i) ⟨0,Nat.zero_le _⟩ [0,1,2,3] ?_ ?_
        ·exact zu
        ·intro s
         have hsi:=s.hi
         by_cases h6:s.i<4
         ·refine za ?_
          refine ⟨⟨s.i+1,h6⟩,[0,1,2,3],by show (4)-(s.i+1)<(4)-s.i;omega,?_⟩
          exact zu
         ·have e6:s.i=4:=by omega
          rw [e6]
          refine za ?_
          refine ⟨⟨r.i+1,h5⟩,[0,1,2],by show (16)-(r.i+1)<(16)-r.i;omega,?_⟩
          repeat ((conv=>whnf);refine zb ?_)
          conv=>whnf
          refine yc (congrArg (fun x=>SV.agg [SV.arr64 32 (tbO (a,b) 4),SV.arr64 16 x,SV.u64 0,SV.u64 0]) (ye (by rw [List.length_replicate];omega) ?hv ?hkk)) ?_
          case hkk=>show ((r.i:Int)).toNat=0+r.i;omega
          case hv=>unfold ze3 hf4;rfl
          exact zu
       ·have e5:r.i=16:=by omega
        have hfl:ovr (List.replicate 16 0) 0 ze3 16=fl:=x2 List.length_replicate ze3
        rw [e5,hfl]
        refine za ?_
        conv=>whnf
        exact zh [1] h
   ·exact h.elim
def z0v:Spec:=fun args hp K=>match args,hp with
  | [.ptr 0 0 0 [],.sl 1 0 0 o n c],[.mk t0 [.arr64 32 T,.arr64 16 F,.u64 y1,.u64 y2],.mk t [.arr8 m l]]=>Pre (T.length=32∧F.length=16∧16≤n∧off o+n≤l.length)
      (K (.tup []) [.mk t0 [.arr64 32 T,.arr64 16 F,.u64 (zgd T F (xr (ld ((l.drop (off o)).take 16)) (y1,y2))).1,.u64 (zgd T F (xr (ld ((l.drop (off o)).take 16)) (y1,y2))).2],.mk t [.arr8 m l]])
  |_,_=>False
set_option maxHeartbeats 4000000 in
theorem z22:zp prog 149 z0v:=by
  refine zn xn (zd zu7 zl) rfl func149 rfl call149 (D:=z86) ?_ ?_
  ·intro args hp K h
   unfold z0v at h
   split at h
   ·exact Nat.le_of_ble_eq_true rfl
   ·exact h.elim
  ·intro args hp K h
   unfold z0v at h
   split at h
   ·rename_i o n c t0 T F y1 y2 t m l
    obtain ⟨⟨hT,hF,hn,hl⟩,h⟩:=zm h
    refine za ?_
    obtain ⟨X,hX⟩: ∃X,X=xr (ld ((l.drop (off o)).take 16)) (y1,y2):=⟨_,rfl⟩
    have hX1:(ld ((l.drop (off o)).take 16)).1^^^y1=X.1:=by rw [hX];rfl
    have hX2:(ld ((l.drop (off o)).take 16)).2^^^y2=X.2:=by rw [hX];rfl
    rw [←hX] at h
    rw [hX1,hX2]
    refine zz (Ix (32)) (fun q=>⟨[(0,.ptr 0 0 0 []),(4,.ptr 2 0 0 []),(5,.ptr 3 0 0 []),(28,.int q.i)],[.mk t0 [.arr64 32 T,.arr64 16 F,.u64 y1,.u64 y2],.mk t [.arr8 m l],.mk 183 [.u64 X.1,.u64 X.2],.mk 183 [.u64 (zjs T F X q.i).1,.u64 (zjs T F X q.i).2]]⟩) (fun q=>(32)-q.i) ⟨0,Nat.zero_le _⟩ [0,1,2,3] ?_ ?_
    ·exact zu
    ·intro q
     have hi:=q.hi
     have hm:(q.i:Int).tmod 16=((q.i%16:Nat):Int):=by rw [Int.tmod_eq_emod_of_nonneg (by omega)];omega
     have hk:(4*(q.i:Int).tmod 16).toNat=4*(q.i%16):=by omega
     have hP:((zjs T F X q.i).2&&&UInt64.ofNat 15).toNat<16:=by have:=zr7 (zjs T F X q.i).2;exact this ▸ Nat.mod_lt _ (by decide)
     by_cases h4:q.i<32
     ·by_cases h16:16≤q.i
      ·have hdg:X.1>>>UInt64.ofNat (4*(q.i:Int).tmod 16).toNat&&&UInt64.ofNat 15=zhy X q.i:=by unfold zhy;rw [if_pos h16,hk];rfl
       have hdl:=zms X q.i
       rw [←hdg] at hdl
       have hO:off (yb [] (X.1>>>UInt64.ofNat (4*(q.i:Int).tmod 16).toNat&&&UInt64.ofNat 15).toNat zbo.sz)=2*(X.1>>>UInt64.ofNat (4*(q.i:Int).tmod 16).toNat&&&UInt64.ofNat 15).toNat:=by rw [zy];show 0+_*2=_;omega
       have hO2:off (yb (yb [] (X.1>>>UInt64.ofNat (4*(q.i:Int).tmod 16).toNat&&&UInt64.ofNat 15).toNat zbo.sz) (0+1) 1)=2*(X.1>>>UInt64.ofNat (4*(q.i:Int).tmod 16).toNat&&&UInt64.ofNat 15).toNat+1:=by rw [zy,hO]
       refine za ?_
       conv=>whnf
       refine ⟨⟨q.i+1,h4⟩,[0,1,2,3],by show (32)-(q.i+1)<(32)-q.i;omega,?_⟩
       repeat ((conv=>whnf);refine zb ?_)
       conv=>whnf
       exact zx (congrArg (fun e:El=>SV.agg [SV.u64 e.1,SV.u64 e.2]) (show (_,_)=zjs T F X (q.i+1) by simp only [zjs,stp];rw [←hdg,hO,hO2];rfl))
      ·have hdg:X.2>>>UInt64.ofNat (4*(q.i:Int).tmod 16).toNat&&&UInt64.ofNat 15=zhy X q.i:=by unfold zhy;rw [if_neg h16,hk];rfl
       have hdl:=zms X q.i
       rw [←hdg] at hdl
       have hO:off (yb [] (X.2>>>UInt64.ofNat (4*(q.i:Int).tmod 16).toNat&&&UInt64.ofNat 15).toNat zbo.sz)=2*(X.2>>>UInt64.ofNat (4*(q.i:Int).tmod 16).toNat&&&UInt64.ofNat 15).toNat:=by rw [zy];show 0+_*2=_;omega
       have hO2:off (yb (yb [] (X.2>>>UInt64.ofNat (4*(q.i:Int).tmod 16).toNat&&&UInt64.ofNat 15).toNat zbo.sz) (0+1) 1)=2*(X.2>>>UInt64.ofNat (4*(q.i:Int).tmod 16).toNat&&&UInt64.ofNat 15).toNat+1:=by rw [zy,hO]
       refine za ?_
       conv=>whnf
       refine ⟨⟨q.i+1,h4⟩,[0,1,2,3],by show (32)-(q.i+1)<(32)-q.i;omega,?_⟩
       repeat ((conv=>whnf);refine zb ?_)
       conv=>whnf
       exact zx (congrArg (fun e:El=>SV.agg [SV.u64 e.1,SV.u64 e.2]) (show (_,_)=zjs T F X (q.i+1) by simp only [zjs,stp];rw [←hdg,hO,hO2];rfl))
     ·have e4:q.i=32:=by omega
      rw [e4]
      have hpm:zjs T F X 32=zgd T F X:=by unfold zgd;rfl
      rw [hpm]
      refine za ?_
      exact zh [0,1] h
   ·exact h.elim
end Go.Sym.Z

namespace Go.Sym.Gcm
open Go.Sym Go.Sym.Lp
theorem zl1 {v:List UInt8} (hv:v.length≤16):zw (List.replicate 16 0) (off []) (List.take (min v.length 16) v)=za0 v:=by
  have h1:List.take (min v.length 16) v=v:=List.take_of_length_le (by omega)
  rw [h1]
  unfold zw za0
  show List.take 0 _++v++List.drop (0+v.length) _=_
  rw [List.take_zero,List.nil_append,List.drop_replicate,Nat.zero_add]
theorem zoo {v:List UInt8} (hv:v.length≤16):(za0 v).length=16:=by
  unfold za0;rw [List.length_append,List.length_replicate];omega
theorem z1c {l:List UInt8} {n a:Nat} (h:a+16≤n) (hl:n≤l.length):za0 (((l.take n).drop a).take 16)=(l.drop a).take 16:=by
  rw [List.drop_take,List.take_take,Nat.min_eq_left (by omega)]
  exact zuf (by rw [List.length_take,List.length_drop];omega)
theorem zu4 (T F:List UInt64) (y:El) {l:List UInt8} {n t:Nat} (h:16*t+16≤n) (hl:n≤l.length):
    zgy T F y (l.take n) (t+1)=zgd T F (xr (ld ((l.drop (16*t)).take 16)) (zgy T F y (l.take n) t)):=by
  rw [zgy,z1c h hl]
theorem zvf (T F:List UInt64) (y:El) {l:List UInt8} {n t k:Nat} (h:k+16*t=n) (h0:0<k) (hk:k<16) (hl:n≤l.length):
    gaB T F y (l.take n)=zgd T F (xr (ld (za0 ((l.drop (16*t)).take k))) (zgy T F y (l.take n) t)):=by
  unfold gaB
  rw [List.length_take,show (min n l.length+15)/ 16=t+1 by omega,zgy,List.drop_take,List.take_take,show min 16 (n-16*t)=k by omega]
theorem zvw (T F:List UInt64) (y:El) {l:List UInt8} {n t:Nat} (h:16*t=n) (hl:n≤l.length):gaB T F y (l.take n)=zgy T F y (l.take n) t:=by
  unfold gaB
  rw [List.length_take,show (min n l.length+15)/ 16=t by omega]
end Go.Sym.Gcm
