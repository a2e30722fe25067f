/-
  Contracts of functions of the program, each said of symbolic values, and plain laws; no condition beyond each statement's own.
-/
import Derived.Test.YtmmpgjcpielefaaGreatGLRecActs18
import Derived.Test.YtmmpgjcpielefaaGreatGLRecActs17
set_option linter.unusedSimpArgs false
set_option linter.unusedVariables false
namespace Go.Sym.Z
open Go Go.Proofs.Tryz Go.Sym.Lp Go.Sym.Aes
set_option maxRecDepth 100000
def ygm:List (Nat×List PStep):= []
def yi0:List (Nat×List PStep):= []
def yi4:List (Nat×List PStep):= []
def ygr:List (Nat×TyI):= [(3,ty3),(4,ty4),(5,ty5),(9,ty9),(48,zef),(51,zei),(168,zel),(178,ze2),(148,zay),(116,zhe),(214,ze4),(212,zfg),(216,zfm)]
theorem zde: ∀t i,xa ygr t=some i→yx prog t i:=(ze zc1 (ze zcz (ze zc2 (ze zcu (ze zbj (ze zbl (ze zk4 (ze zp1 (ze z6b (ze z4d (ze zoa (ze zpk (ze zn0 zau)))))))))))))
def z4x:Spec:=fun args hp K=>match args,hp with
  | [.u8 x,.int k],[]=>Pre (k=1∨k=2∨k=3∨k=4) (K (.u8 (rl8 x k.toNat)) [])
  |_,_=>False
def zxo:Spec:=fun args hp K=>match args,hp with
  | [.u8 x],[]=>K (.u8 (tw x)) []
  |_,_=>False
def zx4:Spec:=fun args hp K=>match args,hp with
  | [],[]=>K (.arr8 256 box) []
  |_,_=>False
theorem yff:zp prog 175 z4x:=by
  refine zm zde zi rfl func175 rfl call175 (D:=ygm) ?_ ?_
  ·intro args hp K h
   unfold z4x at h
   split at h
   ·exact Nat.le_of_ble_eq_true rfl
   ·exact h.elim
  ·intro args hp K h
   unfold z4x at h
   split at h
   ·rename_i x k
    obtain ⟨hk,h⟩:=zn h
    rcases hk with rfl|rfl|rfl|rfl
    all_goals
      refine za ?_
      exact zd [] h
   ·exact h.elim
theorem zs8:zp prog 159 zxo:=by
  refine zm zde zi rfl func159 rfl call159 (D:=yi0) ?_ ?_
  ·intro args hp K h
   unfold zxo at h
   split at h
   ·exact Nat.le_of_ble_eq_true rfl
   ·exact h.elim
  ·intro args hp K h
   unfold zxo at h
   split at h
   ·refine za ?_
    exact zd [] h
   ·exact h.elim
theorem z9o:zp prog 158 zx4:=by
  refine zm zde (zc zs8 (zc yff zi)) rfl func158 rfl call158 (D:=yi4) ?_ ?_
  ·intro args hp K h
   unfold zx4 at h
   split at h
   ·exact Nat.le_of_ble_eq_true rfl
   ·exact h.elim
  ·intro args hp K h
   unfold zx4 at h
   split at h
   ·refine za ?_
    refine zt (Ix (254)) (fun q=>⟨[(0,.ptr 0 0 0 []),(1,.ptr 1 0 0 []),(2,.u8 (pq q.i).1),(3,.u8 (pq q.i).2)],[.mk 212 [.arr8 256 (List.replicate 256 0)],.mk 212 [.arr8 256 (zsg q.i)]]⟩) (fun q=>(254)-q.i) ⟨0,Nat.zero_le _⟩ [0,1] ?_ ?_
    ·exact zo
    ·intro q
     have hi:=q.hi
     have hl:=zqz q.i
     have he:=yfp q.i (by omega)
     have hu:((pq q.i).1^^^tw (pq q.i).1).toNat<256:=((pq q.i).1^^^tw (pq q.i).1).toNat_lt
     by_cases h4:q.i+1≤254
     ·have hd:decide ((pq (q.i+1)).1=UInt8.ofNat 1)=false:=decide_eq_false (fun e=>by have:=he.1 e;omega)
      repeat ((conv=>whnf);first|refine zq ?_|refine zf ?_|refine zg ?_|refine zb ?_|refine zr (by first|exact hd|(rw [hd];rfl)) ?_|refine zj (by first|exact hd|(rw [hd];rfl)) ?_|refine zk (by first|exact hd|(rw [hd];rfl)) ?_)
      conv=>whnf
      refine ⟨⟨q.i+1,h4⟩,[0,1],by show (254)-(q.i+1)<(254)-q.i;omega,?_⟩
      exact zo
     ·have e4:q.i=254:=by omega
      have hd:decide ((pq (q.i+1)).1=UInt8.ofNat 1)=true:=decide_eq_true (he.2 (by omega))
      repeat ((conv=>whnf);first|refine zq ?_|refine zf ?_|refine zg ?_|refine zb ?_|refine zr (by first|exact hd|(rw [hd];rfl)) ?_|refine zj (by first|exact hd|(rw [hd];rfl)) ?_|refine zk (by first|exact hd|(rw [hd];rfl)) ?_)
      have e5:zsg (q.i+1)=box:=by rw [e4];exact yal
      conv=>whnf
      refine y5 (hp':= []) [] h ?_
      repeat ((conv=>whnf);refine zb ?_)
      conv=>whnf
      exact zl (congrArg (SV.arr8 256) e5)
   ·exact h.elim
end Go.Sym.Z

namespace Go.Sym.Gcm
open Go.Sym.Lp
abbrev El:=UInt64×UInt64
def R64:UInt64:=16212958658533785600
def xr (a b:El):El:=(a.1^^^b.1,a.2^^^b.2)
def z0:El:=(0,0)
def msk (l:UInt64):UInt64:=R64&&&(0-(l&&&1))
def yl (e:El):El:=(e.1>>>1^^^msk e.2,e.2>>>1|||e.1<<<63)
theorem ybw (a:El):xr a z0=a:=by
  unfold xr z0;simp
theorem yln (a:El):xr z0 a=a:=by
  unfold xr z0;simp
theorem zss (a b:El):xr a b=xr b a:=by
  unfold xr;rw [UInt64.xor_comm,UInt64.xor_comm a.2]
theorem zu2 (a b c:El):xr (xr a b) c=xr a (xr b c):=by
  unfold xr;simp only [UInt64.xor_assoc]
theorem ye1 (l:UInt64):l&&&1=0∨l&&&1=1:=by
  have h:(l&&&1).toNat=l.toNat%2:=by
    rw [UInt64.toNat_and];show l.toNat&&&(2^1-1)=_;rw [Nat.and_two_pow_sub_one_eq_mod]
  have h2:l.toNat%2=0∨l.toNat%2=1:=by omega
  rcases h2 with h2|h2
  ·left;apply UInt64.toNat_inj.1;rw [h,h2];rfl
  ·right;apply UInt64.toNat_inj.1;rw [h,h2];rfl
theorem z70 (a b:UInt64):(a^^^b)&&&1=(a&&&1)^^^(b&&&1):=by
  apply UInt64.toNat_inj.1
  simp only [UInt64.toNat_and,UInt64.toNat_xor]
  apply Nat.eq_of_testBit_eq
  intro i
  simp only [Nat.testBit_and,Nat.testBit_xor]
  cases Nat.testBit a.toNat i<;>cases Nat.testBit b.toNat i<;>cases Nat.testBit (UInt64.toNat 1) i<;>rfl
theorem ybu (a b:UInt64):msk (a^^^b)=msk a^^^msk b:=by
  unfold msk
  rw [z70]
  rcases ye1 a with h|h<;>rcases ye1 b with h'|h'<;>rw [h,h']<;>decide
theorem z1g (a b k:UInt64):(a^^^b)>>>k=a>>>k^^^b>>>k:=by
  apply UInt64.toNat_inj.1
  simp only [UInt64.toNat_xor,UInt64.toNat_shiftRight]
  apply Nat.eq_of_testBit_eq
  intro i
  simp only [Nat.testBit_xor,Nat.testBit_shiftRight]
theorem yb8 (a b k:UInt64):(a^^^b)<<<k=a<<<k^^^b<<<k:=by
  apply UInt64.toNat_inj.1
  simp only [UInt64.toNat_xor,UInt64.toNat_shiftLeft]
  apply Nat.eq_of_testBit_eq
  intro i
  simp only [Nat.testBit_xor,Nat.testBit_mod_two_pow,Nat.testBit_shiftLeft]
  cases decide (i<64)<;>cases decide (i≥UInt64.toNat k%64)<;>simp
theorem yfq {k:Nat} (hk:k<64) (l h:UInt64) (hl:l.toNat<2^k):l|||h<<<UInt64.ofNat k=l^^^h<<<UInt64.ofNat k:=by
  have hk2:(UInt64.ofNat k).toNat=k:=by rw [UInt64.toNat_ofNat'];omega
  apply UInt64.toNat_inj.1
  simp only [UInt64.toNat_xor,UInt64.toNat_or,UInt64.toNat_shiftLeft]
  rw [hk2,Nat.mod_eq_of_lt hk]
  apply Nat.eq_of_testBit_eq
  intro i
  simp only [Nat.testBit_xor,Nat.testBit_or,Nat.testBit_mod_two_pow,Nat.testBit_shiftLeft]
  by_cases hi:i<k
  ·have e:decide (i≥k)=false:=decide_eq_false (by omega)
   rw [e];simp
  ·have e:Nat.testBit l.toNat i=false:=Nat.testBit_lt_two_pow (Nat.lt_of_lt_of_le hl (Nat.pow_le_pow_right (by decide) (by omega)))
   rw [e];simp
theorem zph (e:El):(yl e).2=e.2>>>1^^^e.1<<<63:=by
  have h:=yfq (k:=63) (by decide) (e.2>>>1) e.1 (by
    rw [UInt64.toNat_shiftRight];have:=e.2.toNat_lt;show e.2.toNat>>>1<9223372036854775808;rw [Nat.shiftRight_eq_div_pow];omega)
  exact h
theorem zz2 (a b:El):yl (xr a b)=xr (yl a) (yl b):=by
  refine Prod.ext ?_ ?_
  ·show (a.1^^^b.1)>>>1^^^msk (a.2^^^b.2)=(a.1>>>1^^^msk a.2)^^^(b.1>>>1^^^msk b.2)
   rw [z1g,ybu]
   generalize a.1>>>1=p
   generalize b.1>>>1=q
   generalize msk a.2=r
   generalize msk b.2=s
   rw [UInt64.xor_assoc,UInt64.xor_assoc,←UInt64.xor_assoc q,UInt64.xor_comm q,UInt64.xor_assoc r]
  ·show (yl (xr a b)).2=(yl a).2^^^(yl b).2
   rw [zph,zph,zph]
   show (a.2^^^b.2)>>>1^^^(a.1^^^b.1)<<<63=_
   rw [z1g,yb8]
   generalize a.2>>>1=p
   generalize b.2>>>1=q
   generalize a.1<<<63=r
   generalize b.1<<<63=s
   rw [UInt64.xor_assoc,UInt64.xor_assoc,←UInt64.xor_assoc q,UInt64.xor_comm q,UInt64.xor_assoc r]
theorem z6k:yl z0=z0:=by decide
def hf4 (e:El):El:=yl (yl (yl (yl e)))
theorem ye2 (a b:El):hf4 (xr a b)=xr (hf4 a) (hf4 b):=by
  unfold hf4;simp only [zz2]
def toN (e:El):Nat:=e.1.toNat*18446744073709551616+e.2.toNat
theorem z0z {a b:El} (h:toN a=toN b):a=b:=by
  unfold toN at h
  have h1:=a.2.toNat_lt
  have h2:=b.2.toNat_lt
  have e1:a.1.toNat=b.1.toNat:=by omega
  have e2:a.2.toNat=b.2.toNat:=by omega
  exact Prod.ext (UInt64.toNat_inj.1 e1) (UInt64.toNat_inj.1 e2)
theorem zk7 (x:UInt64) {k:Nat} (h:k<64):(x>>>UInt64.ofNat k).toNat=x.toNat/ 2^k:=by
  have hk:(UInt64.ofNat k).toNat=k:=by rw [UInt64.toNat_ofNat'];omega
  rw [UInt64.toNat_shiftRight,hk,Nat.mod_eq_of_lt h,Nat.shiftRight_eq_div_pow]
theorem orN {l h:UInt64} {k m:Nat} (hl:l.toNat<2^k) (hh:h.toNat=2^k*m):(l|||h).toNat=l.toNat+2^k*m:=by
  rw [UInt64.toNat_or,hh,Nat.or_comm,←Nat.two_pow_add_eq_or_of_lt hl,Nat.add_comm]
theorem zil {e:El} (h:e.2.toNat%2=0):toN (yl e)=toN e/ 2:=by
  have hm:msk e.2=0:=by
    unfold msk
    have h1:(e.2&&&1)=0:=by
      apply UInt64.toNat_inj.1
      rw [UInt64.toNat_and];show e.2.toNat&&&(2^1-1)=0;rw [Nat.and_two_pow_sub_one_eq_mod];exact h
    rw [h1];decide
  have e1:(yl e).1=e.1>>>UInt64.ofNat 1:=by
    show e.1>>>1^^^msk e.2=_
    rw [hm,UInt64.xor_zero];rfl
  have s1:=zk7 e.1 (k:=1) (by decide)
  have s2:(e.2>>>1).toNat=e.2.toNat/ 2:=zk7 e.2 (k:=1) (by decide)
  have hl:=e.2.toNat_lt
  have s3:(e.1<<<63).toNat=2^63*(e.1.toNat%2):=by
    rw [UInt64.toNat_shiftLeft,Nat.shiftLeft_eq];show e.1.toNat*9223372036854775808%18446744073709551616=9223372036854775808*_;omega
  have e2:(yl e).2.toNat=e.2.toNat/ 2+9223372036854775808*(e.1.toNat%2):=by
    have:=orN (l:=e.2>>>1) (h:=e.1<<<63) (k:=63) (m:=e.1.toNat%2) (by rw [s2];omega) s3
    rw [s2] at this
    exact this
  unfold toN
  rw [e1,s1,e2]
  omega
def sh4 (e:El):El:=(e.1>>>4,e.2>>>4|||e.1<<<60)
theorem z9e (e:El):toN (sh4 e)=toN e/ 16:=by
  have s1:(e.1>>>4).toNat=e.1.toNat/ 16:=zk7 e.1 (k:=4) (by decide)
  have s2:(e.2>>>4).toNat=e.2.toNat/ 16:=zk7 e.2 (k:=4) (by decide)
  have hl:=e.2.toNat_lt
  have s3:(e.1<<<60).toNat=2^60*(e.1.toNat%16):=by
    rw [UInt64.toNat_shiftLeft,Nat.shiftLeft_eq];show e.1.toNat*1152921504606846976%18446744073709551616=1152921504606846976*_;omega
  have e2:(sh4 e).2.toNat=e.2.toNat/ 16+1152921504606846976*(e.1.toNat%16):=by
    have:=orN (l:=e.2>>>4) (h:=e.1<<<60) (k:=60) (m:=e.1.toNat%16) (by rw [s2];omega) s3
    rw [s2] at this
    exact this
  unfold toN
  rw [e2]
  show (e.1>>>4).toNat*_+_=_
  rw [s1]
  omega
theorem z63 {e:El} (h:e.2.toNat%16=0):hf4 e=sh4 e:=by
  have hN:toN e%16=0:=by unfold toN;omega
  have even: ∀{a:El},toN a%2=0→a.2.toNat%2=0:=fun {a} ha=>by unfold toN at ha;omega
  apply z0z
  have h1:=zil (e:=e) (by omega)
  have h2:=zil (e:=yl e) (even (by omega))
  have h3:=zil (e:=yl (yl e)) (even (by omega))
  have h4:=zil (e:=yl (yl (yl e))) (even (by omega))
  unfold hf4
  rw [h4,h3,h2,h1,z9e]
  omega
def zgr (i:Nat):UInt64:=(hf4 (0,UInt64.ofNat i)).1
theorem z3y: ∀i,i<16→hf4 (0,UInt64.ofNat i)=(zgr i,0):=by decide
theorem zvr (l:UInt64):(l&&&15).toNat=l.toNat%16:=by
  rw [UInt64.toNat_and];show l.toNat&&&(2^4-1)=_;rw [Nat.and_two_pow_sub_one_eq_mod]
theorem ya3 (l:UInt64):(l>>>4)<<<4^^^(l&&&15)=l:=by
  apply UInt64.toNat_inj.1
  rw [UInt64.toNat_xor,UInt64.toNat_and,UInt64.toNat_shiftLeft,UInt64.toNat_shiftRight]
  apply Nat.eq_of_testBit_eq
  intro i
  rw [Nat.testBit_xor,Nat.testBit_and,Nat.testBit_mod_two_pow]
  show ((decide (i<64)&&Nat.testBit ((l.toNat>>>4)<<<4) i) ^^(Nat.testBit l.toNat i&&Nat.testBit (2^4-1) i))=_
  rw [Nat.testBit_shiftLeft,Nat.testBit_shiftRight,Nat.testBit_two_pow_sub_one]
  by_cases h4:i<4
  ·rw [decide_eq_true h4,decide_eq_false (show ¬i≥4 by omega)];simp
  ·rw [decide_eq_false h4,decide_eq_true (show i≥4 by omega)]
   by_cases h64:i<64
   ·rw [decide_eq_true h64,show 4+(i-4)=i by omega];simp
   ·rw [decide_eq_false h64]
    have:Nat.testBit l.toNat i=false:=Nat.testBit_lt_two_pow (Nat.lt_of_lt_of_le l.toNat_lt (Nat.pow_le_pow_right (by decide) (by omega)))
    rw [this];simp
theorem yeh (e:El):hf4 e=((sh4 e).1^^^zgr (e.2&&&15).toNat,(sh4 e).2):=by
  have hs:e=xr (e.1,(e.2>>>4)<<<4) (0,e.2&&&15):=by
    unfold xr
    refine Prod.ext ?_ ?_
    ·show e.1=e.1^^^0;rw [UInt64.xor_zero]
    ·exact (ya3 e.2).symm
  have h15:=zvr e.2
  have hq:UInt64.ofNat (e.2&&&15).toNat=e.2&&&15:=UInt64.ofNat_toNat
  have hsm:=z3y (e.2&&&15).toNat (by rw [h15];omega)
  rw [hq] at hsm
  have s2:(e.2>>>4).toNat=e.2.toNat/ 16:=zk7 e.2 (k:=4) (by decide)
  have hl:=e.2.toNat_lt
  have s3:((e.2>>>4)<<<4).toNat=16*(e.2.toNat/ 16):=by
    rw [UInt64.toNat_shiftLeft,s2,Nat.shiftLeft_eq];show e.2.toNat/ 16*16%18446744073709551616=_;omega
  have hev:=z63 (e:=(e.1,(e.2>>>4)<<<4)) (by show ((e.2>>>4)<<<4).toNat%16=0;rw [s3];omega)
  have hsh:sh4 (e.1,(e.2>>>4)<<<4)=sh4 e:=by
    apply z0z
    rw [z9e,z9e]
    unfold toN
    rw [s3]
    show (e.1.toNat*_+_)/ 16=_
    omega
  conv=>lhs;rw [hs]
  rw [ye2,hsm,hev,hsh]
  unfold xr
  refine Prod.ext rfl ?_
  show (sh4 e).2^^^0=_
  rw [UInt64.xor_zero]
def zd2 (P:Nat→Bool):El→Nat→El
  |_,0=>z0
  |h,n+1=>xr (if P 0=true then h else z0) (zd2 (fun j=>P (j+1)) (yl h) n)
theorem yat (c:Bool) (h:El):yl (if c=true then h else z0)=if c=true then yl h else z0:=by
  cases c
  ·exact z6k
  ·rfl
theorem zkz (n:Nat): ∀(P:Nat→Bool) (h:El),yl (zd2 P h n)=zd2 P (yl h) n:=by
  induction n with
  |zero=>intro P h;exact z6k
  |succ n ih=>intro P h;simp only [zd2];rw [zz2,yat,ih]
theorem zwa (n:Nat): ∀(P:Nat→Bool) (h:El),zd2 P h (n+1)=xr (zd2 P h n) (if P n=true then (Nat.repeat yl n h) else z0):=by
  induction n with
  |zero=>intro P h;simp only [zd2,Nat.repeat];rw [ybw,yln]
  |succ n ih=>
   intro P h
   have hr: ∀m (g:El),Nat.repeat yl m (yl g)=yl (Nat.repeat yl m g):=by
     intro m
     induction m with
     |zero=>intro g;rfl
     |succ m ihm=>intro g;simp only [Nat.repeat];rw [ihm]
   rw [zd2,ih,←zu2,hr]
   rfl
theorem z7x (n:Nat) (P:Nat→Bool) (h:El):
    zd2 P h (n+4)=xr (hf4 (zd2 (fun j=>P (j+4)) h n)) (zd2 P h 4):=by
  have e:hf4 (zd2 (fun j=>P (j+4)) h n)=zd2 (fun j=>P (j+4)) (yl (yl (yl (yl h)))) n:=by
    unfold hf4;rw [zkz,zkz,zkz,zkz]
  rw [e,zss]
  simp only [zd2]
  rw [ybw]
  simp only [zu2]
theorem zma (n:Nat): ∀{P Q:Nat→Bool} (h:El),(∀j,j<n→P j=Q j)→zd2 P h n=zd2 Q h n:=by
  induction n with
  |zero=>intro P Q h _;rfl
  |succ n ih=>
   intro P Q h hp
   simp only [zd2]
   rw [hp 0 (by omega),ih (yl h) (fun j hj=>hp (j+1) (by omega))]
def g6 (x:List UInt64) (i:Nat):UInt64:=x.getD i 0
def tbI (bit:Nat) (x:El) (T:List UInt64):Nat→List UInt64
  |0=>T
  |i+1=>if i&&&bit=0 then tbI bit x T i else ((tbI bit x T i).set (2*i) (g6 (tbI bit x T i) (2*i)^^^x.1)).set (2*i+1) (g6 ((tbI bit x T i).set (2*i) (g6 (tbI bit x T i) (2*i)^^^x.1)) (2*i+1)^^^x.2)
theorem zjv (bit:Nat) (x:El) (T:List UInt64): ∀i,(tbI bit x T i).length=T.length
  |0=>rfl
  |i+1=>by
   simp only [tbI]
   split
   ·exact zjv bit x T i
   ·rw [List.length_set,List.length_set];exact zjv bit x T i
def ent (T:List UInt64) (d:Nat):El:=(g6 T (2*d),g6 T (2*d+1))
theorem zyt {T:List UInt64} {i j:Nat} {v:UInt64} (h:j<T.length):g6 (T.set j v) i=if i=j then v else g6 T i:=by
  unfold g6
  by_cases e:i=j
  ·rw [if_pos e,e,List.getD_eq_getElem?_getD,List.getElem?_set_self h];rfl
  ·rw [if_neg e,List.getD_eq_getElem?_getD,List.getElem?_set_ne (by omega),←List.getD_eq_getElem?_getD]
theorem ybs {T:List UInt64} (hT:T.length=32) {n:Nat} (hn:n<16) (v w:UInt64) (d:Nat):ent ((T.set (2*n) v).set (2*n+1) w) d=if d=n then (v,w) else ent T d:=by
  have l2:(T.set (2*n) v).length=32:=by rw [List.length_set];exact hT
  have g1: ∀i,g6 ((T.set (2*n) v).set (2*n+1) w) i=if i=2*n+1 then w else if i=2*n then v else g6 T i:=fun i=>by
    rw [zyt (by omega),zyt (by omega)]
  unfold ent
  rw [g1,g1]
  by_cases e:d=n
  ·rw [if_pos e,e,if_neg (by omega),if_pos rfl,if_pos rfl]
  ·rw [if_neg e,if_neg (by omega),if_neg (by omega),if_neg (by omega),if_neg (by omega)]
theorem z0i {bit:Nat} {x:El} {T:List UInt64} (hT:T.length=32) {d:Nat} (hd:d<16): ∀n,n≤16→ent (tbI bit x T n) d=if d<n∧d&&&bit≠0 then xr (ent T d) x else ent T d
  |0,_=>by rw [if_neg (by omega)];rfl
  |n+1,hn=>by
   have ih:=z0i (bit:=bit) (x:=x) hT hd n (by omega)
   have hl:=(zjv bit x T n).trans hT
   by_cases hb:n&&&bit=0
   ·have e:tbI bit x T (n+1)=tbI bit x T n:=by simp only [tbI];rw [if_pos hb]
    rw [e,ih]
    by_cases hdn:d=n
    ·rw [if_neg (fun hh=>hh.2 (by rw [hdn];exact hb)),if_neg (fun hh=>hh.2 (by rw [hdn];exact hb))]
    ·by_cases hc:d<n∧d&&&bit≠0
     ·rw [if_pos hc,if_pos ⟨by omega,hc.2⟩]
     ·rw [if_neg hc,if_neg (fun hh=>hc ⟨by omega,hh.2⟩)]
   ·have e:tbI bit x T (n+1)=((tbI bit x T n).set (2*n) (g6 (tbI bit x T n) (2*n)^^^x.1)).set (2*n+1) (g6 ((tbI bit x T n).set (2*n) (g6 (tbI bit x T n) (2*n)^^^x.1)) (2*n+1)^^^x.2):=by simp only [tbI];rw [if_neg hb]
    have g1:g6 ((tbI bit x T n).set (2*n) (g6 (tbI bit x T n) (2*n)^^^x.1)) (2*n+1)=g6 (tbI bit x T n) (2*n+1):=by
      rw [zyt (by omega),if_neg (by omega)]
    rw [e,g1,ybs hl (by omega)]
    by_cases hdn:d=n
    ·rw [if_pos hdn,if_pos ⟨by omega,by rw [hdn];exact hb⟩]
     rw [if_neg (by omega)] at ih
     rw [←ih,hdn]
     rfl
    ·rw [if_neg hdn,ih]
     by_cases hc:d<n∧d&&&bit≠0
     ·rw [if_pos hc,if_pos ⟨by omega,hc.2⟩]
     ·rw [if_neg hc,if_neg (fun hh=>hc ⟨by omega,hh.2⟩)]
def tbO (h:El):Nat→List UInt64
  |0=>List.replicate 32 0
  |k+1=>tbI (8/ 2^k) (Nat.repeat yl k h) (tbO h k) 16
theorem zm6 (h:El): ∀k,(tbO h k).length=32
  |0=>rfl
  |k+1=>by rw [tbO,zjv];exact zm6 h k
def tb (h:El):List UInt64:=tbO h 4
theorem ydb (h:El):(tb h).length=32:=zm6 h 4
theorem yb5 (h:El) {d:Nat} (hd:d<16) (k:Nat):ent (tbO h (k+1)) d=xr (ent (tbO h k) d) (if d&&&(8/ 2^k)≠0 then Nat.repeat yl k h else z0):=by
  rw [tbO,z0i (zm6 h k) hd 16 (Nat.le_refl _)]
  by_cases hc:d&&&(8/ 2^k)≠0
  ·rw [if_pos ⟨hd,hc⟩,if_pos hc]
  ·rw [if_neg (fun hh=>hc hh.2),if_neg hc,ybw]
def dig (d j:Nat):Bool:=decide (d/ 2^(3-j)%2=1)
theorem yb6: ∀d,d<16→ ∀k,k<4→(dig d k=true↔d&&&(8/ 2^k)≠0):=by decide
theorem ykh (h:El): ∀d,d<16→ent (List.replicate 32 0) d=z0:=by decide
theorem yew (h:El) {d:Nat} (hd:d<16):ent (tb h) d=zd2 (dig d) h 4:=by
  have hs: ∀k,k≤4→ent (tbO h k) d=zd2 (dig d) h k:=by
    intro k
    induction k with
    |zero=>intro _;exact ykh h d hd
    |succ k ih=>
     intro hk
     rw [yb5 h hd,zwa,ih (by omega)]
     congr 1
     have:=yb6 d hd k (by omega)
     by_cases hc:d&&&(8/ 2^k)≠0
     ·rw [if_pos hc,if_pos (this.2 hc)]
     ·rw [if_neg hc,if_neg (fun hh=>hc (this.1 hh))]
  exact hs 4 (Nat.le_refl _)
def fl:List UInt64:=(List.range 16).map zgr
def zj1 (x:El) (i:Nat):UInt64:=if 16≤i then x.1>>>UInt64.ofNat (4*(i%16))&&&15 else x.2>>>UInt64.ofNat (4*(i%16))&&&15
def stp (T F:List UInt64) (z:El) (d:UInt64):El:=
  (z.1>>>4^^^g6 F (z.2&&&15).toNat^^^g6 T (2*d.toNat),(z.2>>>4|||z.1<<<60)^^^g6 T (2*d.toNat+1))
def zl8 (T F:List UInt64) (x:El):Nat→El
  |0=>z0
  |i+1=>stp T F (zl8 T F x i) (zj1 x i)
def zgv (T F:List UInt64) (x:El):El:=zl8 T F x 32
theorem zpj (x:El) (i:Nat):(zj1 x i).toNat<16:=by
  unfold zj1
  split<;>(rw [zvr];omega)
theorem yc5 (h z:El) {d:UInt64} (hd:d.toNat<16):stp (tb h) fl z d=xr (hf4 z) (zd2 (dig d.toNat) h 4):=by
  have hf:g6 fl (z.2&&&15).toNat=zgr (z.2&&&15).toNat:=by
    unfold g6 fl
    rw [zc7 _ _ (by rw [zvr];omega)]
  rw [←yew h hd,yeh]
  unfold stp
  rw [hf]
  generalize zgr (z.2&&&15).toNat=f
  generalize tb h=T
  unfold xr ent sh4
  rfl
def zlm (a:El) (j:Nat):Bool:=if 63<j then decide (a.2.toNat/ 2^(127-j)%2=1) else decide (a.1.toNat/ 2^(63-j)%2=1)
def zp8 (h a:El):El:=zd2 (zlm a) h 128
theorem ya7 (x:El) {i j:Nat} (hi:i<32) (hj:j<4):dig (zj1 x i).toNat j=zlm x (124-4*i+j):=by
  have hw: ∀(y:UInt64) (k m:Nat),k<64→m<4→((y>>>UInt64.ofNat k&&&15).toNat)/ 2^m%2=y.toNat/ 2^(k+m)%2:=by
    intro y k m hk hm
    rw [zvr,zk7 y hk,Nat.pow_add,←Nat.div_div_eq_div_mul]
    generalize y.toNat/ 2^k=q
    have:m=0∨m=1∨m=2∨m=3:=by omega
    rcases this with rfl|rfl|rfl|rfl
    ·show q%16/ 1%2=q/ 1%2;omega
    ·show q%16/ 2%2=q/ 2%2;omega
    ·show q%16/ 4%2=q/ 4%2;omega
    ·show q%16/ 8%2=q/ 8%2;omega
  unfold dig zlm zj1
  by_cases h16:16≤i
  ·rw [if_pos h16,if_neg (by omega),hw _ _ _ (by omega) (by omega),show 4*(i%16)+(3-j)=63-(124-4*i+j) by omega]
  ·rw [if_neg h16,if_pos (by omega),hw _ _ _ (by omega) (by omega),show 4*(i%16)+(3-j)=127-(124-4*i+j) by omega]
theorem z6c (h x:El): ∀i,i≤32→zl8 (tb h) fl x i=zd2 (fun j=>zlm x (128-4*i+j)) h (4*i)
  |0,_=>rfl
  |i+1,hi=>by
   rw [zl8,yc5 h _ (zpj x i),z6c h x i (by omega)]
   refine Eq.trans ?_ (z7x (4*i) (fun j=>zlm x (128-4*(i+1)+j)) h).symm
   refine congr (congrArg xr (congrArg hf4 ?_)) ?_
   ·refine zma _ h fun j hj=>?_
    show zlm x _=zlm x _
    congr 1;omega
   ·refine zma _ h fun j hj=>?_
    show dig _ j=zlm x _
    rw [ya7 x (by omega) hj]
    congr 1;omega
theorem z0g (h x:El):zgv (tb h) fl x=zp8 h x:=by
  unfold zgv zp8
  rw [z6c h x 32 (Nat.le_refl _)]
  refine zma _ h fun j hj=>?_
  show zlm x _=zlm x _
  congr 1;omega
def tmA (a:UInt64):Nat→UInt64
  |0=>a
  |i+1=>tmA a i<<<1
def zgb (a:El) (i:Nat):UInt64:=if 63<i then tmA a.2 (i-64)>>>63 else tmA a.1 i>>>63
def tmX (a c:El):Nat→El
  |0=>z0
  |i+1=>if zgb a i=1 then xr (tmX a c i) (Nat.repeat yl i c) else tmX a c i
theorem z0h (a:UInt64): ∀i,(tmA a i).toNat=a.toNat*2^i%18446744073709551616
  |0=>by show a.toNat=_;rw [Nat.pow_zero,Nat.mul_one,Nat.mod_eq_of_lt a.toNat_lt]
  |i+1=>by
   have e:a.toNat*2^(i+1)=a.toNat*2^i*2:=by rw [Nat.pow_succ,Nat.mul_assoc]
   rw [tmA,UInt64.toNat_shiftLeft,z0h a i,Nat.shiftLeft_eq,e]
   generalize a.toNat*2^i=q
   show q%18446744073709551616*2%18446744073709551616=q*2%18446744073709551616
   omega
theorem z03 (a:UInt64) {i:Nat} (h:i<64):(tmA a i>>>63).toNat=a.toNat/ 2^(63-i)%2:=by
  have e:(tmA a i>>>63).toNat=(tmA a i).toNat/ 2^63:=zk7 _ (k:=63) (by decide)
  rw [e,z0h]
  have hp:2^(63-i)*2^i=2^63:=by rw [←Nat.pow_add];congr 1;omega
  have h2:(18446744073709551616:Nat)=2^63*2:=by decide
  rw [h2,Nat.mod_mul_right_div_self,←hp,Nat.mul_div_mul_right _ _ (Nat.pow_pos (by decide))]
theorem z37 (a:El) {i:Nat} (h:i<128):zgb a i=1↔zlm a i=true:=by
  have one: ∀x:UInt64,x=1↔x.toNat=1:=fun x=>by rw [←UInt64.toNat_inj];rfl
  unfold zgb zlm
  by_cases hi:63<i
  ·rw [if_pos hi,if_pos hi,one,z03 _ (by omega),decide_eq_true_iff,show 63-(i-64)=127-i by omega]
  ·rw [if_neg hi,if_neg hi,one,z03 _ (by omega),decide_eq_true_iff]
theorem z1m (a c:El): ∀i,i≤128→tmX a c i=zd2 (zlm a) c i
  |0,_=>rfl
  |i+1,h=>by
   rw [tmX,z1m a c i (by omega),zwa]
   have hb:=z37 a (i:=i) (by omega)
   by_cases hc:zgb a i=1
   ·rw [if_pos hc,if_pos (hb.1 hc)]
   ·rw [if_neg hc,if_neg (fun hh=>hc (hb.2 hh)),ybw]
theorem ydf (a c:El):tmX a c 128=zp8 c a:=z1m a c 128 (Nat.le_refl _)
end Go.Sym.Gcm

namespace Go.Sym.Gcm
open Go.Sym.Lp Go.Sym.Aes
def ldE (s:List UInt8):Nat→El
  |0=>z0
  |i+1=>((ldE s i).1<<<8|||(s.getD i 0).toUInt64,(ldE s i).2<<<8|||(s.getD (8+i) 0).toUInt64)
def ld (s:List UInt8):El:=ldE s 8
def z9i (f g:Nat→UInt8):Nat→List UInt8
  |0=>List.replicate 16 0
  |i+1=>((z9i f g i).set i (f i)).set (8+i) (g i)
theorem zv9 (f g:Nat→UInt8): ∀i,(z9i f g i).length=16
  |0=>rfl
  |i+1=>by simp only [z9i,List.length_set];exact zv9 f g i
theorem z7c (f g:Nat→UInt8):z9i f g 8= [f 0,f 1,f 2,f 3,f 4,f 5,f 6,f 7,g 0,g 1,g 2,g 3,g 4,g 5,g 6,g 7]:=rfl
def zmu (e:El) (i:Nat):List UInt8:=z9i (fun i=>(e.1>>>UInt64.ofNat (56-8*i)).toUInt8) (fun i=>(e.2>>>UInt64.ofNat (56-8*i)).toUInt8) i
theorem zwu (e:El) (i:Nat):(zmu e i).length=16:=zv9 _ _ i
theorem ye9 (e:El) (i:Nat):zmu e (i+1)=((zmu e i).set i (e.1>>>UInt64.ofNat (56-8*i)).toUInt8).set (8+i) (e.2>>>UInt64.ofNat (56-8*i)).toUInt8:=rfl
def wr (e:El):List UInt8:=zmu e 8
theorem zjk (e:El):(wr e).length=16:=zwu e 8
theorem ybi (e:El):wr e= [(e.1>>>UInt64.ofNat (56-8*0)).toUInt8,(e.1>>>UInt64.ofNat (56-8*1)).toUInt8,(e.1>>>UInt64.ofNat (56-8*2)).toUInt8,(e.1>>>UInt64.ofNat (56-8*3)).toUInt8,(e.1>>>UInt64.ofNat (56-8*4)).toUInt8,(e.1>>>UInt64.ofNat (56-8*5)).toUInt8,(e.1>>>UInt64.ofNat (56-8*6)).toUInt8,(e.1>>>UInt64.ofNat (56-8*7)).toUInt8,(e.2>>>UInt64.ofNat (56-8*0)).toUInt8,(e.2>>>UInt64.ofNat (56-8*1)).toUInt8,(e.2>>>UInt64.ofNat (56-8*2)).toUInt8,(e.2>>>UInt64.ofNat (56-8*3)).toUInt8,(e.2>>>UInt64.ofNat (56-8*4)).toUInt8,(e.2>>>UInt64.ofNat (56-8*5)).toUInt8,(e.2>>>UInt64.ofNat (56-8*6)).toUInt8,(e.2>>>UInt64.ofNat (56-8*7)).toUInt8]:=by
  unfold wr zmu
  rw [z7c]
def sr8 (a:UInt64):Nat→UInt64
  |0=>a
  |k+1=>sr8 a k>>>8
def zmv (e:El):Nat→List UInt8
  |0=>List.replicate 16 0
  |k+1=>((zmv e k).set (7-k) (sr8 e.1 k&&&255).toUInt8).set (15-k) (sr8 e.2 k&&&255).toUInt8
theorem zv4 (e:El): ∀i,(zmv e i).length=16
  |0=>rfl
  |i+1=>by simp only [zmv,List.length_set];exact zv4 e i
theorem zzy (a:UInt64): ∀k,(sr8 a k).toNat=a.toNat/ 2^(8*k)
  |0=>by show a.toNat=_;simp
  |k+1=>by
   have e:(sr8 a k>>>8).toNat=(sr8 a k).toNat/ 2^8:=zk7 _ (k:=8) (by decide)
   rw [sr8,e,zzy a k,Nat.div_div_eq_div_mul,←Nat.pow_add];rfl
theorem zeh (y:UInt64):(y&&&255).toNat=y.toNat%256:=by
  rw [UInt64.toNat_and];show y.toNat&&&(2^8-1)=_;rw [Nat.and_two_pow_sub_one_eq_mod]
theorem zaa (a:UInt64) {k:Nat} (h:k<8):(sr8 a k&&&255).toUInt8=(a>>>UInt64.ofNat (8*k)).toUInt8:=by
  apply UInt8.toNat_inj.1
  rw [UInt64.toNat_toUInt8,UInt64.toNat_toUInt8,zeh,zzy,zk7 _ (by omega),Nat.mod_mod]
theorem yg7 (e:El):zmv e 8=wr e:=by
  have h1:zmv e 8= [(sr8 e.1 7&&&255).toUInt8,(sr8 e.1 6&&&255).toUInt8,(sr8 e.1 5&&&255).toUInt8,(sr8 e.1 4&&&255).toUInt8,(sr8 e.1 3&&&255).toUInt8,(sr8 e.1 2&&&255).toUInt8,(sr8 e.1 1&&&255).toUInt8,(sr8 e.1 0&&&255).toUInt8,(sr8 e.2 7&&&255).toUInt8,(sr8 e.2 6&&&255).toUInt8,(sr8 e.2 5&&&255).toUInt8,(sr8 e.2 4&&&255).toUInt8,(sr8 e.2 3&&&255).toUInt8,(sr8 e.2 2&&&255).toUInt8,(sr8 e.2 1&&&255).toUInt8,(sr8 e.2 0&&&255).toUInt8]:=rfl
  rw [h1]
  rw [zaa e.1 (k:=7) (by decide),zaa e.1 (k:=6) (by decide),zaa e.1 (k:=5) (by decide),zaa e.1 (k:=4) (by decide),zaa e.1 (k:=3) (by decide),zaa e.1 (k:=2) (by decide),zaa e.1 (k:=1) (by decide),zaa e.1 (k:=0) (by decide)]
  rw [zaa e.2 (k:=7) (by decide),zaa e.2 (k:=6) (by decide),zaa e.2 (k:=5) (by decide),zaa e.2 (k:=4) (by decide),zaa e.2 (k:=3) (by decide),zaa e.2 (k:=2) (by decide),zaa e.2 (k:=1) (by decide),zaa e.2 (k:=0) (by decide)]
  rw [ybi]
def ctr (nonce:List UInt8) (n:UInt32):List UInt8:=nonce++ [(n>>>24).toUInt8,(n>>>16).toUInt8,(n>>>8).toUInt8,n.toUInt8]
theorem zm3 {nonce:List UInt8} (h:nonce.length=12) (n:UInt32):(ctr nonce n).length=16:=by unfold ctr;simp [h]
def zsn (nonce:List UInt8) (n:UInt32):Nat→List UInt8
  |0=>nonce++ [0,0,0,0]
  |i+1=>(zsn nonce n i).set (15-i) (n>>>UInt32.ofNat (8*i)).toUInt8
theorem zvh {nonce:List UInt8} (h:nonce.length=12) (n:UInt32): ∀i,(zsn nonce n i).length=16
  |0=>by simp [zsn,h]
  |i+1=>by simp only [zsn,List.length_set];exact zvh h n i
theorem zy8 {x:List UInt8} (h:x.length=12): ∃a0 a1 a2 a3 a4 a5 a6 a7 a8 a9 b0 b1,x= [a0,a1,a2,a3,a4,a5,a6,a7,a8,a9,b0,b1]:=by
  match x,h with
  | [a0,a1,a2,a3,a4,a5,a6,a7,a8,a9,b0,b1],_=>exact ⟨a0,a1,a2,a3,a4,a5,a6,a7,a8,a9,b0,b1,rfl⟩
theorem z42 {nonce:List UInt8} (h:nonce.length=12) (n:UInt32):zsn nonce n 4=ctr nonce n:=by
  obtain ⟨a0,a1,a2,a3,a4,a5,a6,a7,a8,a9,b0,b1,rfl⟩:=zy8 h
  have e:(n>>>UInt32.ofNat (8*0)).toUInt8=n.toUInt8:=by
    have:n>>>UInt32.ofNat (8*0)=n:=UInt32.shiftRight_zero
    rw [this]
  show [a0,a1,a2,a3,a4,a5,a6,a7,a8,a9,b0,b1,_,_,_,(n>>>UInt32.ofNat (8*0)).toUInt8]=_
  rw [e]
  rfl
def beB (x:Int) (size:Nat):List UInt8:=(List.range size).map fun j=>UInt8.ofInt (x/ 2^(8*(size-1-j)))
theorem zah (x:Int) (size:Nat):(beB x size).length=size:=zz _ _
theorem z18 (n:Nat):UInt8.ofInt (n:Int)=UInt8.ofNat n:=by
  apply UInt8.toNat_inj.1
  unfold UInt8.ofInt
  rw [UInt8.toNat_ofNat',UInt8.toNat_ofNat']
  omega
theorem zd7 {n:Nat} (k:Nat):UInt8.ofInt ((n:Int)/ 2^k)=UInt8.ofNat (n/ 2^k):=by
  have e:((n:Int)/ 2^k)=((n/ 2^k:Nat):Int):=by rw [Int.natCast_ediv,Int.natCast_pow];rfl
  rw [e,z18]
theorem yfg {nonce:List UInt8} {n:Nat} (hn:n<4294967296):nonce++beB (n:Int) 4=ctr nonce (UInt32.ofNat n):=by
  unfold ctr
  congr 1
  have hv:(UInt32.ofNat n).toNat=n:=by rw [UInt32.toNat_ofNat'];omega
  have b: ∀k,k<32→UInt8.ofInt ((n:Int)/ 2^k)=(UInt32.ofNat n>>>UInt32.ofNat k).toUInt8:=by
    intro k hk
    have hk2:(UInt32.ofNat k).toNat=k:=by rw [UInt32.toNat_ofNat'];omega
    rw [zd7]
    apply UInt8.toNat_inj.1
    rw [UInt32.toNat_toUInt8,UInt8.toNat_ofNat',UInt32.toNat_shiftRight,hv,hk2,Nat.mod_eq_of_lt hk,Nat.shiftRight_eq_div_pow]
  have b0:=b 0 (by decide)
  have z:UInt32.ofNat n>>>UInt32.ofNat 0=UInt32.ofNat n:=UInt32.shiftRight_zero
  rw [z] at b0
  show [UInt8.ofInt ((n:Int)/ 2^24),UInt8.ofInt ((n:Int)/ 2^16),UInt8.ofInt ((n:Int)/ 2^8),UInt8.ofInt ((n:Int)/ 2^0)]=_
  rw [b 24 (by decide),b 16 (by decide),b 8 (by decide),b0]
  rfl
theorem yh9 {m n:Nat} (hm:m<18446744073709551616) (hn:n<18446744073709551616):beB (m:Int) 8++beB (n:Int) 8=wr (UInt64.ofNat m,UInt64.ofNat n):=by
  have b: ∀{m:Nat},m<18446744073709551616→ ∀k,k<64→UInt8.ofInt ((m:Int)/ 2^k)=(UInt64.ofNat m>>>UInt64.ofNat k).toUInt8:=by
    intro m hm k hk
    have hv:(UInt64.ofNat m).toNat=m:=by rw [UInt64.toNat_ofNat'];omega
    rw [zd7]
    apply UInt8.toNat_inj.1
    rw [UInt64.toNat_toUInt8,UInt8.toNat_ofNat',zk7 _ hk,hv]
  have e: ∀{m:Nat},m<18446744073709551616→beB (m:Int) 8= [(UInt64.ofNat m>>>UInt64.ofNat 56).toUInt8,(UInt64.ofNat m>>>UInt64.ofNat 48).toUInt8,(UInt64.ofNat m>>>UInt64.ofNat 40).toUInt8,(UInt64.ofNat m>>>UInt64.ofNat 32).toUInt8,(UInt64.ofNat m>>>UInt64.ofNat 24).toUInt8,(UInt64.ofNat m>>>UInt64.ofNat 16).toUInt8,(UInt64.ofNat m>>>UInt64.ofNat 8).toUInt8,(UInt64.ofNat m>>>UInt64.ofNat 0).toUInt8]:=by
    intro m hm
    show [UInt8.ofInt ((m:Int)/ 2^56),UInt8.ofInt ((m:Int)/ 2^48),UInt8.ofInt ((m:Int)/ 2^40),UInt8.ofInt ((m:Int)/ 2^32),UInt8.ofInt ((m:Int)/ 2^24),UInt8.ofInt ((m:Int)/ 2^16),UInt8.ofInt ((m:Int)/ 2^8),UInt8.ofInt ((m:Int)/ 2^0)]=_
    rw [b hm 56 (by decide),b hm 48 (by decide),b hm 40 (by decide),b hm 32 (by decide),b hm 24 (by decide),b hm 16 (by decide),b hm 8 (by decide),b hm 0 (by decide)]
  rw [e hm,e hn]
  rfl
def zbo (l:List UInt8):List UInt8:=l++List.replicate (16-l.length) 0
theorem zzc {l:List UInt8} (h:l.length=16):zbo l=l:=by unfold zbo;rw [h];simp
def ziz (T F:List UInt64) (y:El) (B:List UInt8):Nat→El
  |0=>y
  |t+1=>zgv T F (xr (ld (zbo ((B.drop (16*t)).take 16))) (ziz T F y B t))
def gaB (T F:List UInt64) (y:El) (B:List UInt8):El:=ziz T F y B ((B.length+15)/ 16)
def zhj (h:El) (s:List UInt8):Nat→El
  |0=>z0
  |t+1=>zp8 h (xr (zhj h s t) (ld ((s.drop (16*t)).take 16)))
def za5 (n:Nat):List UInt8:=List.replicate ((16-n%16)%16) 0
theorem zfi (n:Nat):(za5 n).length=(16-n%16)%16:=List.length_replicate
theorem zuf (h:El) (A B C:List UInt8) (y:El) {n:Nat} (hA:A.length=16*n) (hy:y=zhj h (A++(B++za5 B.length)++C) n): ∀t,t≤(B.length+15)/ 16→
    ziz (tb h) fl y B t=zhj h (A++(B++za5 B.length)++C) (n+t)
  |0,_=>hy
  |t+1,ht=>by
   have ih:=zuf h A B C y hA hy t (by omega)
   show zgv (tb h) fl (xr (ld (zbo ((B.drop (16*t)).take 16))) (ziz (tb h) fl y B t))=zp8 h (xr (zhj h (A++(B++za5 B.length)++C) (n+t)) (ld (((A++(B++za5 B.length)++C).drop (16*(n+t))).take 16)))
   rw [ih,z0g,zss]
   congr 3
   have hfl:=zfi B.length
   have e1:(A++(B++za5 B.length)++C).drop (16*(n+t))=(B++za5 B.length).drop (16*t)++C:=by
     rw [List.append_assoc,show 16*(n+t)=A.length+16*t by omega,List.drop_append]
     have h1:List.drop (A.length+16*t) A= []:=List.drop_eq_nil_of_le (by omega)
     rw [h1,List.nil_append,show A.length+16*t-A.length=16*t by omega,List.drop_append_of_le_length (by rw [List.length_append,hfl];omega)]
   have hl2:((B++za5 B.length).drop (16*t)).length=B.length+(za5 B.length).length-16*t:=by rw [List.length_drop,List.length_append]
   rw [e1,List.take_append_of_le_length (by rw [hl2,hfl];omega)]
   unfold zbo
   by_cases h16:16*t+16≤B.length
   ·rw [List.drop_append_of_le_length (by omega),List.take_append_of_le_length (by rw [List.length_drop];omega)]
    rw [show 16-((B.drop (16*t)).take 16).length=0 by rw [List.length_take,List.length_drop];omega]
    simp
   ·have e2:(B.drop (16*t)).take 16=B.drop (16*t):=List.take_of_length_le (by rw [List.length_drop];omega)
    rw [e2,List.drop_append_of_le_length (by omega),List.take_of_length_le (by rw [List.length_append,List.length_drop,hfl];omega)]
    unfold za5
    rw [List.length_drop]
    congr 2
    omega
def zqi (aad b:List UInt8):List UInt8:=aad++za5 aad.length++(b++za5 b.length)++wr (UInt64.ofNat (8*aad.length),UInt64.ofNat (8*b.length))
def gN (aad b:List UInt8):Nat:=(aad.length+15)/ 16+(b.length+15)/ 16+1
theorem z7s (aad b:List UInt8):(zqi aad b).length=16*gN aad b:=by
  unfold zqi gN
  have h1:=zfi aad.length
  have h2:=zfi b.length
  have h3:=zjk (UInt64.ofNat (8*aad.length),UInt64.ofNat (8*b.length))
  simp only [List.length_append]
  omega
theorem yd6 (h:El) (aad b:List UInt8):
    zgv (tb h) fl (xr (ld (wr (UInt64.ofNat (8*aad.length),UInt64.ofNat (8*b.length)))) (gaB (tb h) fl (gaB (tb h) fl z0 aad) b))=zhj h (zqi aad b) (gN aad b):=by
  obtain ⟨L,hL⟩: ∃L,L=wr (UInt64.ofNat (8*aad.length),UInt64.ofNat (8*b.length)):=⟨_,rfl⟩
  have hLl:L.length=16:=by rw [hL];exact zjk _
  have h1:=zfi aad.length
  have h2:=zfi b.length
  have p1:=zuf h [] aad ((b++za5 b.length)++L) z0 (n:=0) rfl rfl ((aad.length+15)/ 16) (Nat.le_refl _)
  have hA:(aad++za5 aad.length).length=16*((aad.length+15)/ 16):=by rw [List.length_append,h1];omega
  have e1: []++(aad++za5 aad.length)++((b++za5 b.length)++L)=aad++za5 aad.length++(b++za5 b.length)++L:=by
    rw [List.nil_append,List.append_assoc (aad++za5 aad.length)]
  rw [e1,Nat.zero_add] at p1
  have p2:=zuf h (aad++za5 aad.length) b L (gaB (tb h) fl z0 aad) (n:=(aad.length+15)/ 16) hA p1 ((b.length+15)/ 16) (Nat.le_refl _)
  have hT:zqi aad b=aad++za5 aad.length++(b++za5 b.length)++L:=by unfold zqi;rw [hL]
  rw [←hL,hT]
  show _=zp8 h (xr (zhj h _ ((aad.length+15)/ 16+(b.length+15)/ 16)) (ld ((List.drop (16*((aad.length+15)/ 16+(b.length+15)/ 16)) _).take 16)))
  rw [←p2,z0g,zss]
  have hd:List.drop (16*((aad.length+15)/ 16+(b.length+15)/ 16)) (aad++za5 aad.length++(b++za5 b.length)++L)=L:=by
    apply List.drop_left'
    simp only [List.length_append]
    omega
  rw [hd,List.take_of_length_le (by omega)]
  rfl
end Go.Sym.Gcm

namespace Go.Sym.Z
open Go Go.Proofs.Tryz Go.Sym.Lp Go.Sym.Gcm
set_option maxRecDepth 100000
attribute [local irreducible] ldE zmu
def ygx:List (Nat×List PStep):= [(5,[⟨0,[]⟩,⟨1,[]⟩,⟨2,[]⟩,⟨3,[0,1,2]⟩,⟨4,[0,1,2,3]⟩,⟨5,[0,1,2]⟩,⟨6,[0,1,2]⟩,⟨7,[0,1,2]⟩,⟨8,[]⟩,⟨9,[]⟩,⟨10,[]⟩]),(6,[⟨0,[]⟩,⟨1,[]⟩,⟨2,[]⟩,⟨3,[0,1,2]⟩,⟨4,[0,1,2,3]⟩,⟨5,[0,1,2,3]⟩,⟨6,[0,1,2]⟩,⟨7,[0,1,2]⟩,⟨8,[0,1,2]⟩,⟨9,[]⟩,⟨10,[]⟩,⟨11,[]⟩])]
def yg4:List (Nat×List PStep):= []
def yh2:List (Nat×List PStep):= [(5,[⟨0,[]⟩,⟨1,[0]⟩,⟨2,[0]⟩,⟨3,[0,1,2]⟩,⟨4,[0,1,2]⟩,⟨5,[0,1,2,3,4]⟩,⟨6,[0,1,2,3,4]⟩,⟨7,[0,1,2,3,4]⟩,⟨8,[0,1,2]⟩,⟨9,[0,1,2]⟩,⟨10,[0,1,2,3,4,5,6,7,8,9]⟩,⟨11,[0,1,2,3,4,5,6,7,8,9]⟩,⟨12,[0,1,2,3,4,5,6,7,8,9,10,11]⟩,⟨13,[0,1,2,3,4,5,6,7,8,9,10,11]⟩,⟨14,[0,1,2,3,4,5,6,7,8,9,10,11]⟩,⟨15,[0,1,2,3,4,5,6,7,8,9]⟩,⟨16,[0,1,2,3,4,5,6,7,8,9]⟩,⟨17,[1,2,10,11,12,13,14,15,16]⟩,⟨18,[1,2,10,11,12,13,14,15,16]⟩,⟨19,[]⟩,⟨20,[]⟩])]
def ygo:List (Nat×TyI):= [(3,ty3),(4,ty4),(5,ty5),(9,ty9),(48,zef),(99,xl),(113,xw),(51,zei),(168,zel),(183,zco),(201,zg3),(195,zhn),(198,zg5),(199,zhi),(186,zgm),(134,zgp),(178,ze2),(216,zfm),(214,ze4),(212,zfg)]
theorem yy: ∀t i,xa ygo t=some i→yx prog t i:=(ze zc1 (ze zcz (ze zc2 (ze zcu (ze zbj (ze zcd (ze zba (ze zbl (ze zk4 (ze zxg (ze z4l (ze z85 (ze z4i (ze z4q (ze zu6 (ze zwd (ze zp1 (ze zn0 (ze zoa (ze zpk zau))))))))))))))))))))
def zy3:Spec:=fun args hp K=>match args,hp with
  | [.sl 0 0 0 o n c],[.mk t [.arr8 m l]]=>Pre (16≤n∧off o+n≤l.length) (K (.agg [.u64 (ld ((l.drop (off o)).take 16)).1,.u64 (ld ((l.drop (off o)).take 16)).2]) [.mk t [.arr8 m l]])
  |_,_=>False
theorem z0l:zp prog 136 zy3:=by
  refine zm yy zi rfl func136 rfl call136 (D:=ygx) ?_ ?_
  ·intro args hp K h
   unfold zy3 at h
   split at h
   ·exact Nat.le_of_ble_eq_true rfl
   ·exact h.elim
  ·intro args hp K h
   unfold zy3 at h
   split at h
   ·rename_i o n c t m l
    obtain ⟨⟨hn,hl⟩,h⟩:=zn h
    refine za ?_
    refine zt (Ix (8)) (fun q=>⟨[(0,.sl 0 0 0 o n c),(2,.ptr 1 0 0 []),(3,.ptr 2 0 0 []),(5,.int q.i)],[.mk t [.arr8 m l],.mk 183 [.u64 0,.u64 0],.mk 183 [.u64 (ldE ((l.drop (off o)).take 16) q.i).1,.u64 (ldE ((l.drop (off o)).take 16) q.i).2]]⟩) (fun q=>(8)-q.i) ⟨0,Nat.zero_le _⟩ [0,1,2] ?_ ?_
    ·repeat ((conv=>whnf);refine zb ?_)
     conv=>whnf
     exact zl (congrArg (fun e:El=>SV.agg [SV.u64 e.1,SV.u64 e.2]) (show z0=ldE _ 0 by unfold ldE;rfl))
    ·intro q
     have hi:=q.hi
     have hA:off (yd o ((q.i:Int)).toNat ty5.sz)=off o+q.i:=by rw [zy];show off o+((q.i:Int)).toNat*1=_;omega
     have hB:off (yd o ((8:Int)+(q.i:Int)).toNat ty5.sz)=off o+(8+q.i):=by rw [zy];show off o+((8:Int)+(q.i:Int)).toNat*1=_;omega
     by_cases h4:q.i<8
     ·refine za ?_
      refine ⟨⟨q.i+1,h4⟩,[0,1,2],by show (8)-(q.i+1)<(8)-q.i;omega,?_⟩
      repeat ((conv=>whnf);refine zb ?_)
      conv=>whnf
      exact zl (congrArg (fun e:El=>SV.agg [SV.u64 e.1,SV.u64 e.2]) (show (_,_)=ldE ((l.drop (off o)).take 16) (q.i+1) by simp only [ldE];rw [zhl (by omega),zhl (by omega),←hA,←hB];rfl))
     ·have e4:q.i=8:=by omega
      rw [e4]
      refine za ?_
      exact zd [0] h
   ·exact h.elim
def zzf:Spec:=fun args hp K=>match args,hp with
  | [.agg [.u64 a,.u64 b]],[]=>K (.agg [.u64 (yl (a,b)).1,.u64 (yl (a,b)).2]) []
  |_,_=>False
theorem yas:zp prog 166 zzf:=by
  refine zm yy zi rfl func166 rfl call166 (D:=yg4) ?_ ?_
  ·intro args hp K h
   unfold zzf at h
   split at h
   ·exact Nat.le_of_ble_eq_true rfl
   ·exact h.elim
  ·intro args hp K h
   unfold zzf at h
   split at h
   ·rename_i a b
    refine za ?_
    conv=>whnf
    exact zd [] h
   ·exact h.elim
def zth:Spec:=fun args hp K=>match args,hp with
  | [.agg [.u64 a,.u64 b]],[]=>K (.arr8 16 (wr (a,b))) []
  |_,_=>False
theorem z89:zp prog 148 zth:=by
  refine zm yy zi rfl func148 rfl call148 (D:=yh2) ?_ ?_
  ·intro args hp K h
   unfold zth at h
   split at h
   ·exact Nat.le_of_ble_eq_true rfl
   ·exact h.elim
  ·intro args hp K h
   unfold zth at h
   split at h
   ·rename_i a b
    refine za ?_
    refine zt (Ix (8)) (fun q=>⟨[(0,.agg [.u64 a,.u64 b]),(1,.ptr 0 0 0 []),(2,.ptr 1 0 0 []),(3,.ptr 2 0 0 []),(5,.int q.i)],[.mk 183 [.u64 a,.u64 b],.mk 168 [.arr8 16 (List.replicate 16 0)],.mk 168 [.arr8 16 (zmu (a,b) q.i)]]⟩) (fun q=>(8)-q.i) ⟨0,Nat.zero_le _⟩ [0,1,2] ?_ ?_
    ·repeat ((conv=>whnf);refine zb ?_)
     conv=>whnf
     exact zl (congrArg (fun x=>SV.agg [SV.arr8 16 x]) (show List.replicate 16 0=zmu (a,b) 0 by unfold zmu;rfl))
    ·intro q
     have hi:=q.hi
     have hl:=zwu (a,b) q.i
     have hA:off (yd [] ((q.i:Int)).toNat ty5.sz)=q.i:=by rw [zy];show 0+((q.i:Int)).toNat*1=_;omega
     have hB:off (yd [] ((8:Int)+(q.i:Int)).toNat ty5.sz)=(8+q.i):=by rw [zy];show 0+((8:Int)+(q.i:Int)).toNat*1=_;omega
     have hK:((56:Int)-8*(q.i:Int)).toNat=56-8*q.i:=by omega
     by_cases h4:q.i<8
     ·refine za ?_
      refine ⟨⟨q.i+1,h4⟩,[0,1,2],by show (8)-(q.i+1)<(8)-q.i;omega,?_⟩
      repeat ((conv=>whnf);refine zb ?_)
      conv=>whnf
      exact zl (congrArg (fun x=>SV.agg [SV.arr8 16 x]) (show _=zmu (a,b) (q.i+1) by rw [ye9,hA,hB,hK]))
     ·have e4:q.i=8:=by omega
      rw [e4]
      refine za ?_
      exact zd [] h
   ·exact h.elim
end Go.Sym.Z
