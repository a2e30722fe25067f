/-
  Contracts of functions of the program, each said of symbolic values, and plain laws; no condition beyond each statement's own.
-/
import Derived.Test.YtmmpgjcpielefaaGreatGLRecActs35
set_option linter.unusedSimpArgs false
set_option linter.unusedVariables false
namespace Go.Sym.Pol
open Go.Sym.Lp
theorem zm2 {x:List UInt64} (h:x.length=5) {B:Nat} (hB:B≤1152921504606846976) (hb: ∀i,i<5→(g64 x i).toNat≤B):
    ∃k,ws x=ws (rcd x)+k*pP∧(rcd x).length=5∧(g64 (rcd x) 0).toNat≤67108863+5*(B/ 67108864+B/ 67108864/ 33554432+1)∧(∀i,0<i→i<5→(g64 (rcd x) i).toNat<67108864):=by
  obtain ⟨a,b,c,d,e,rfl⟩:=zek h
  have ha:a.toNat≤B:=hb 0 (by decide)
  have hb':b.toNat≤B:=hb 1 (by decide)
  have hc:c.toNat≤B:=hb 2 (by decide)
  have hd:d.toNat≤B:=hb 3 (by decide)
  have he:e.toNat≤B:=hb 4 (by decide)
  rw [z7v]
  simp only
  have e0:(a+0).toNat=a.toNat:=xp (by show a.toNat+0<_;omega)
  generalize a+0=a' at*
  have s0:=zck a'
  have n0:=zbe a'
  generalize a'>>>(26:UInt64)=c0 at*
  generalize a'&&&M26=a0 at*
  have e1:(b+c0).toNat=b.toNat+c0.toNat:=xp (by omega)
  generalize b+c0=b1 at*
  have s1:=zck b1
  have n1:=zbe b1
  generalize b1>>>(26:UInt64)=c1 at*
  have e2:(c+c1).toNat=c.toNat+c1.toNat:=xp (by omega)
  generalize c+c1=c' at*
  have s2:=zck c'
  have n2:=zbe c'
  generalize c'>>>(26:UInt64)=c2 at*
  have e3:(d+c2).toNat=d.toNat+c2.toNat:=xp (by omega)
  generalize d+c2=d' at*
  have s3:=zck d'
  have n3:=zbe d'
  generalize d'>>>(26:UInt64)=c3 at*
  have e4:(e+c3).toNat=e.toNat+c3.toNat:=xp (by omega)
  generalize e+c3=e' at*
  have s4:=zck e'
  have n4:=zbe e'
  generalize e'>>>(26:UInt64)=c4 at*
  have m5:(5*c4).toNat=5*c4.toNat:=z3q (by show 5*c4.toNat<_;omega)
  have e5:(a0+5*c4).toNat=a0.toNat+5*c4.toNat:=by rw [xp (by omega),m5]
  refine ⟨c4.toNat,?_,rfl,?_,?_⟩
  ·simp only [ws]
   rw [e5,n1,n2,n3,n4]
   unfold pP
   omega
  ·show (a0+5*c4).toNat≤_
   rw [e5];omega
  ·intro i h0 hi
   have:i=1∨i=2∨i=3∨i=4:=by omega
   rcases this with rfl|rfl|rfl|rfl
   ·show (b1&&&M26).toNat<_;omega
   ·show (c'&&&M26).toNat<_;omega
   ·show (d'&&&M26).toNat<_;omega
   ·show (e'&&&M26).toNat<_;omega
end Go.Sym.Pol
namespace Go.Sym.Pol
theorem zqc {x r:List UInt64} (hx:x.length=5) (hr:r.length=5) (bx: ∀i,i<5→(g64 x i).toNat<268435456) (br: ∀i,i<5→(g64 r i).toNat<67108864):
    (∃k,ws x*ws r=ws (zb7 x r)+k*pP)∧ ∀i,i<5→(g64 (zb7 x r) i).toNat<134217728:=by
  obtain ⟨⟨k1,e1⟩,hb⟩:=z8s hx hr bx br
  obtain ⟨k2,e2,l2,a2,b2⟩:=zm2 (zbt x r 25) (B:=1152921504606846976) (Nat.le_refl _) (fun i hi=>Nat.le_of_lt (hb i hi))
  have a2':(g64 (rcd (xw x r 25)) 0).toNat≤100000000000:=by omega
  obtain ⟨k3,e3,l3,a3,b3⟩:=zm2 l2 (B:=100000000000) (by omega) (fun i hi=>by
    by_cases h0:i=0
    ·rw [h0];exact a2'
    ·have:=b2 i (by omega) hi;omega)
  refine ⟨⟨k1+k2+k3,?_⟩,?_⟩
  ·unfold zb7
   rw [e1,e2,e3,Nat.add_mul,Nat.add_mul]
   omega
  ·intro i hi
   unfold zb7
   by_cases h0:i=0
   ·rw [h0];omega
   ·have:=b3 i (by omega) hi;omega
theorem zq7 {x r:List UInt64} (hx:x.length=5) (hr:r.length=5) (bx: ∀i,i<5→(g64 x i).toNat<268435456) (br: ∀i,i<5→(g64 r i).toNat<67108864):
    (∃k,ws x*ws r=ws (zg6 x r)+k*pP)∧ ∀i,i<5→(g64 (zg6 x r) i).toNat<134217728:=by
  obtain ⟨⟨k1,e1⟩,hb⟩:=z8s hx hr bx br
  obtain ⟨k2,e2,l2,b2,_⟩:=z1s (zbt x r 25) hb
  refine ⟨⟨k1+k2,?_⟩,?_⟩
  ·unfold zg6
   rw [e1,e2,Nat.add_mul]
   omega
  ·intro i hi
   unfold zg6
   have:=b2 i hi
   omega
end Go.Sym.Pol
namespace Go.Sym.Pol
theorem zkj {x y:List UInt64} (hx:x.length=5) (hy:y.length=5) (bx: ∀i,i<5→(g64 x i).toNat<134217728) (bz: ∀i,i<5→(g64 y i).toNat<67108864):
    ws (zjv x y)=ws x+ws y∧ ∀i,i<5→(g64 (zjv x y) i).toNat<268435456:=by
  obtain ⟨a,b,c,d,e,rfl⟩:=zek hx
  obtain ⟨r,s,t,u,v,rfl⟩:=zek hy
  have ha:a.toNat<134217728:=bx 0 (by decide)
  have hb:b.toNat<134217728:=bx 1 (by decide)
  have hc:c.toNat<134217728:=bx 2 (by decide)
  have hd:d.toNat<134217728:=bx 3 (by decide)
  have he:e.toNat<134217728:=bx 4 (by decide)
  have hr:r.toNat<67108864:=bz 0 (by decide)
  have hs:s.toNat<67108864:=bz 1 (by decide)
  have ht:t.toNat<67108864:=bz 2 (by decide)
  have hu:u.toNat<67108864:=bz 3 (by decide)
  have hv:v.toNat<67108864:=bz 4 (by decide)
  have e1:(a+r).toNat=a.toNat+r.toNat:=xp (by omega)
  have e2:(b+s).toNat=b.toNat+s.toNat:=xp (by omega)
  have e3:(c+t).toNat=c.toNat+t.toNat:=xp (by omega)
  have e4:(d+u).toNat=d.toNat+u.toNat:=xp (by omega)
  have e5:(e+v).toNat=e.toNat+v.toNat:=xp (by omega)
  have ea:zjv [a,b,c,d,e] [r,s,t,u,v]= [a+r,b+s,c+t,d+u,e+v]:=rfl
  rw [ea]
  refine ⟨?_,?_⟩
  ·simp only [ws]
   rw [e1,e2,e3,e4,e5]
   omega
  ·intro i hi
   have:i=0∨i=1∨i=2∨i=3∨i=4:=by omega
   rcases this with rfl|rfl|rfl|rfl|rfl
   ·show (a+r).toNat<_;omega
   ·show (b+s).toNat<_;omega
   ·show (c+t).toNat<_;omega
   ·show (d+u).toNat<_;omega
   ·show (e+v).toNat<_;omega
theorem zqw {x y:List UInt64} (hx:x.length=5) (hy:y.length=5):zg8 x y 5=zjv x y:=by
  obtain ⟨a,b,c,d,e,rfl⟩:=zek hx
  obtain ⟨r,s,t,u,v,rfl⟩:=zek hy
  rfl
theorem z2c {x y r m n:List UInt64} (hx:x.length=5) (hy:y.length=5) (hr:r.length=5) (hm:m.length=5) (hn:n.length=5)
    (bx: ∀i,i<5→(g64 x i).toNat<134217728) (bz: ∀i,i<5→(g64 y i).toNat<134217728) (br: ∀i,i<5→(g64 r i).toNat<67108864)
    (bm: ∀i,i<5→(g64 m i).toNat<67108864) (bn: ∀i,i<5→(g64 n i).toNat<67108864) (e:ws x%pP=ws y%pP) (em:ws m=ws n):
    ws (zg6 (zjv x m) r)%pP=ws (zb7 (zg8 y n 5) r)%pP:=by
  obtain ⟨v1,b1⟩:=zkj hx hm bx bm
  obtain ⟨v2,b2⟩:=zkj hy hn bz bn
  rw [zqw hy hn]
  obtain ⟨⟨k1,q1⟩,_⟩:=zq7 (zhu x m) hr b1 br
  obtain ⟨⟨k2,q2⟩,_⟩:=zqc (zhu y n) hr b2 br
  have f1:ws (zg6 (zjv x m) r)%pP=(ws (zjv x m)*ws r)%pP:=by rw [q1,Nat.add_mul_mod_self_right]
  have f2:ws (zb7 (zjv y n) r)%pP=(ws (zjv y n)*ws r)%pP:=by rw [q2,Nat.add_mul_mod_self_right]
  rw [f1,f2,v1,v2,em,Nat.mul_mod,Nat.add_mod,e,←Nat.add_mod,←Nat.mul_mod]
end Go.Sym.Pol

namespace Go.Sym.Pol
open Go.Sym.Lp
theorem ydd {x:List UInt64} (h:x.length=5) {l:Nat} (hl:l<5) (v:UInt64):
    ws (x.set l v)+2^(26*l)*(g64 x l).toNat=ws x+2^(26*l)*v.toNat:=by
  obtain ⟨a,b,c,d,e,rfl⟩:=zek h
  have:l=0∨l=1∨l=2∨l=3∨l=4:=by omega
  rcases this with rfl|rfl|rfl|rfl|rfl
  ·show v.toNat+_+_+_+_+1*a.toNat=a.toNat+_+_+_+_+1*v.toNat;omega
  ·show _+67108864*v.toNat+_+_+_+67108864*b.toNat=_+67108864*b.toNat+_+_+_+67108864*v.toNat;omega
  ·show _+_+4503599627370496*v.toNat+_+_+4503599627370496*c.toNat=_+_+4503599627370496*c.toNat+_+_+4503599627370496*v.toNat;omega
  ·show _+_+_+302231454903657293676544*v.toNat+_+302231454903657293676544*d.toNat=_+_+_+302231454903657293676544*d.toNat+_+302231454903657293676544*v.toNat;omega
  ·show _+_+_+_+20282409603651670423947251286016*v.toNat+20282409603651670423947251286016*e.toNat=_+_+_+_+20282409603651670423947251286016*e.toNat+20282409603651670423947251286016*v.toNat;omega
theorem z4t {a:UInt64} {k:Nat} (hk:k<64) (h:a.toNat<2^k):(a|||UInt64.ofNat 1<<<UInt64.ofNat k).toNat=a.toNat+2^k:=by
  have hp:2^k<2^64:=Nat.pow_lt_pow_right (by decide) hk
  have hk2:(UInt64.ofNat k).toNat=k:=by rw [UInt64.toNat_ofNat'];omega
  rw [UInt64.toNat_or,UInt64.toNat_shiftLeft,hk2,Nat.mod_eq_of_lt hk]
  show a.toNat|||(1<<<k)%2^64=_
  rw [Nat.one_shiftLeft,Nat.mod_eq_of_lt hp,Nat.or_comm]
  have e:=Nat.two_pow_add_eq_or_of_lt h 1
  rw [Nat.mul_one] at e
  rw [←e,Nat.add_comm]
def zcn (P:Nat→Bool):Nat→Nat
  |0=>0
  |i+1=>zcn P i+if P i=true then 2^i else 0
theorem zj4 (P:Nat→Bool): ∀i,i≤130→ws (x1 P i)=zcn P i∧ ∀l,l<5→(g64 (x1 P i) l).toNat<2^(min 26 (i-26*l))
  |0,_=>⟨rfl,fun l hl=>by
   have h0:(g64 (x1 P 0) l).toNat=0:=by
     have:l=0∨l=1∨l=2∨l=3∨l=4:=by omega
     rcases this with rfl|rfl|rfl|rfl|rfl<;>rfl
   rw [h0]
   exact Nat.pow_pos (by decide)⟩
  |i+1,h=>by
   obtain ⟨hv,hb⟩:=zj4 P i (by omega)
   have hmono: ∀l,2^(min 26 (i-26*l))≤2^(min 26 (i+1-26*l)):=fun l=>Nat.pow_le_pow_right (by decide) (by omega)
   by_cases hp:P i=true
   ·rw [zlo hp]
    have hl5:i/ 26<5:=by omega
    have hg:(g64 (x1 P i) (i/ 26)).toNat<2^(i%26):=by
      have:=hb (i/ 26) hl5
      rwa [show min 26 (i-26*(i/ 26))=i%26 by omega] at this
    have ho:=z4t (a:=g64 (x1 P i) (i/ 26)) (k:=i%26) (by omega) hg
    refine ⟨?_,?_⟩
    ·have hs:=ydd (zbs P i) hl5 (g64 (x1 P i) (i/ 26)|||UInt64.ofNat 1<<<UInt64.ofNat (i%26))
     rw [ho,Nat.mul_add,←Nat.pow_add,show 26*(i/ 26)+i%26=i by omega] at hs
     simp only [zcn]
     rw [if_pos hp,←hv]
     omega
    ·intro l hl
     by_cases hli:l=i/ 26
     ·rw [hli]
      have hgs:g64 ((x1 P i).set (i/ 26) (g64 (x1 P i) (i/ 26)|||UInt64.ofNat 1<<<UInt64.ofNat (i%26))) (i/ 26)=g64 (x1 P i) (i/ 26)|||UInt64.ofNat 1<<<UInt64.ofNat (i%26):=by
        unfold g64
        rw [List.getD_eq_getElem?_getD,List.getElem?_set_self (by rw [zbs];exact hl5)];rfl
      rw [hgs,ho,show min 26 (i+1-26*(i/ 26))=i%26+1 by omega,Nat.pow_succ]
      omega
     ·have hgs:g64 ((x1 P i).set (i/ 26) (g64 (x1 P i) (i/ 26)|||UInt64.ofNat 1<<<UInt64.ofNat (i%26))) l=g64 (x1 P i) l:=by
        unfold g64
        rw [List.getD_eq_getElem?_getD,List.getElem?_set_ne (by omega),←List.getD_eq_getElem?_getD]
      rw [hgs]
      exact Nat.lt_of_lt_of_le (hb l hl) (hmono l)
   ·have hp2:P i=false:=by cases hh:P i with|true=>exact absurd hh hp|false=>rfl
    rw [zo3 hp2]
    refine ⟨?_,fun l hl=>Nat.lt_of_lt_of_le (hb l hl) (hmono l)⟩
    simp only [zcn]
    rw [if_neg hp,hv,Nat.add_zero]
end Go.Sym.Pol

namespace Go.Sym.Pol
open Go.Sym.Lp
theorem zxd (P:Nat→Bool): ∀i,zcn P i<2^i
  |0=>Nat.one_pos
  |i+1=>by
   have h:=zxd P i
   simp only [zcn]
   rw [Nat.pow_succ]
   split<;>omega
theorem zmr {P Q:Nat→Bool}: ∀i,(∀j,j<i→P j=Q j)→zcn P i=zcn Q i
  |0,_=>rfl
  |i+1,h=>by
   simp only [zcn]
   rw [zmr i (fun j hj=>h j (by omega)),h i (by omega)]
theorem z57 (P:Nat→Bool) {i:Nat} (h:i≤129):
    ws ((x1 P i).set (i/ 26) (g64 (x1 P i) (i/ 26)|||UInt64.ofNat 1<<<UInt64.ofNat (i%26)))=zcn P i+2^i∧
    ∀l,l<5→(g64 ((x1 P i).set (i/ 26) (g64 (x1 P i) (i/ 26)|||UInt64.ofNat 1<<<UInt64.ofNat (i%26))) l).toNat<67108864:=by
  have hc:x1 P i=x1 (fun j=>if j=i then true else P j) i:=by
    have: ∀k,k≤i→x1 P k=x1 (fun j=>if j=i then true else P j) k:=by
      intro k
      induction k with
      |zero=>intro _;rfl
      |succ k ih=>
       intro hk
       have hQ:(fun j=>if j=i then true else P j) k=P k:=if_neg (by omega)
       have ih2:=ih (by omega)
       cases hp:P k with
       |true=>rw [zlo hp,zlo (hQ.trans hp),←ih2]
       |false=>rw [zo3 hp,zo3 (hQ.trans hp),←ih2]
    exact this i (Nat.le_refl _)
  have hs:x1 (fun j=>if j=i then true else P j) (i+1)=(x1 P i).set (i/ 26) (g64 (x1 P i) (i/ 26)|||UInt64.ofNat 1<<<UInt64.ofNat (i%26)):=by
    rw [zlo (by simp),←hc]
  obtain ⟨hv,hb⟩:=zj4 (fun j=>if j=i then true else P j) (i+1) (by omega)
  rw [hs] at hv hb
  refine ⟨?_,fun l hl=>Nat.lt_of_lt_of_le (hb l hl) (Nat.pow_le_pow_right (n:=2) (by decide) (Nat.min_le_left 26 _))⟩
  rw [hv]
  simp only [zcn,if_true]
  rw [zmr (Q:=P) i (fun j hj=>if_neg (by omega))]
theorem zv1 (s:List UInt8) (at':Nat) {n:Nat} (hn:n≤16):
    ws (zqi s at' n)=zcn (zc2 s at') (8*n)+2^(8*n)∧ ∀l,l<5→(g64 (zqi s at' n) l).toNat<67108864:=
  z57 (zc2 s at') (by omega)
end Go.Sym.Pol

namespace Go.Sym.Pol
open Go.Sym.Lp
def w3:List UInt64→Nat
  | [a,b,c]=>a.toNat+18446744073709551616*b.toNat+340282366920938463463374607431768211456*c.toNat
  |_=>0
theorem zqy {x:List UInt64} (h:x.length=3): ∃a b c,x= [a,b,c]:=by
  match x,h with
  | [a,b,c],_=>exact ⟨a,b,c,rfl⟩
theorem z4h {x:List UInt64} (h:x.length=3) {l:Nat} (hl:l<3) (v:UInt64):
    w3 (x.set l v)+2^(64*l)*(g64 x l).toNat=w3 x+2^(64*l)*v.toNat:=by
  obtain ⟨a,b,c,rfl⟩:=zqy h
  have:l=0∨l=1∨l=2:=by omega
  rcases this with rfl|rfl|rfl
  ·show v.toNat+_+_+1*a.toNat=a.toNat+_+_+1*v.toNat;omega
  ·show _+18446744073709551616*v.toNat+_+18446744073709551616*b.toNat=_+18446744073709551616*b.toNat+_+18446744073709551616*v.toNat;omega
  ·show _+_+340282366920938463463374607431768211456*v.toNat+340282366920938463463374607431768211456*c.toNat=_+_+340282366920938463463374607431768211456*c.toNat+340282366920938463463374607431768211456*v.toNat;omega
theorem yal {a:UInt64} {y:UInt8} {k:Nat} (hk:k≤56) (h:a.toNat<2^k):(a|||y.toUInt64<<<UInt64.ofNat k).toNat=a.toNat+2^k*y.toNat:=by
  have hk2:(UInt64.ofNat k).toNat=k:=by rw [UInt64.toNat_ofNat'];omega
  have hy:y.toNat<256:=y.toNat_lt
  have hp:2^k≤2^56:=Nat.pow_le_pow_right (by decide) hk
  have hm:2^k*y.toNat≤2^56*255:=Nat.mul_le_mul hp (by omega)
  rw [UInt64.toNat_or,UInt64.toNat_shiftLeft,hk2,Nat.mod_eq_of_lt (a:=k) (by omega)]
  show a.toNat|||(y.toNat<<<k)%2^64=_
  rw [Nat.shiftLeft_eq,Nat.mul_comm y.toNat,Nat.mod_eq_of_lt (by omega),Nat.or_comm,←Nat.two_pow_add_eq_or_of_lt h,Nat.add_comm]
def leN (b:List UInt8):Nat→Nat
  |0=>0
  |i+1=>leN b i+2^(8*i)*(b.getD i 0).toNat
theorem zvq (b:List UInt8): ∀i,i≤16→w3 (za7 b i)=leN b i∧ ∀l,l<3→(g64 (za7 b i) l).toNat<2^(min 64 (8*i-64*l))
  |0,_=>⟨rfl,fun l hl=>by
   have h0:(g64 (za7 b 0) l).toNat=0:=by
     have:l=0∨l=1∨l=2:=by omega
     rcases this with rfl|rfl|rfl<;>rfl
   rw [h0]
   exact Nat.pow_pos (by decide)⟩
  |i+1,h=>by
   obtain ⟨hv,hb⟩:=zvq b i (by omega)
   have hl3:i/ 8<3:=by omega
   have hg:(g64 (za7 b i) (i/ 8)).toNat<2^(8*(i%8)):=by
     have:=hb (i/ 8) hl3
     rwa [show min 64 (8*i-64*(i/ 8))=8*(i%8) by omega] at this
   have ho:=yal (a:=g64 (za7 b i) (i/ 8)) (y:=b.getD i 0) (k:=8*(i%8)) (by omega) hg
   simp only [za7,leN]
   refine ⟨?_,?_⟩
   ·have hs:=z4h (zd1 b i) hl3 (g64 (za7 b i) (i/ 8)|||(b.getD i 0).toUInt64<<<UInt64.ofNat (8*(i%8)))
    rw [ho,Nat.mul_add,←Nat.mul_assoc,←Nat.pow_add,show 64*(i/ 8)+8*(i%8)=8*i by omega] at hs
    rw [←hv]
    omega
   ·intro l hl
    by_cases hli:l=i/ 8
    ·rw [hli]
     have hgs:g64 ((za7 b i).set (i/ 8) (g64 (za7 b i) (i/ 8)|||(b.getD i 0).toUInt64<<<UInt64.ofNat (8*(i%8)))) (i/ 8)=g64 (za7 b i) (i/ 8)|||(b.getD i 0).toUInt64<<<UInt64.ofNat (8*(i%8)):=by
       unfold g64
       rw [List.getD_eq_getElem?_getD,List.getElem?_set_self (by rw [zd1];exact hl3)];rfl
     have hy:(b.getD i 0).toNat<256:=(b.getD i 0).toNat_lt
     have hm:2^(8*(i%8))*(b.getD i 0).toNat≤2^(8*(i%8))*255:=Nat.mul_le_mul (Nat.le_refl _) (by omega)
     rw [hgs,ho,show min 64 (8*(i+1)-64*(i/ 8))=8*(i%8)+8 by omega,Nat.pow_add]
     show _<2^(8*(i%8))*256
     omega
    ·have hgs:g64 ((za7 b i).set (i/ 8) (g64 (za7 b i) (i/ 8)|||(b.getD i 0).toUInt64<<<UInt64.ofNat (8*(i%8)))) l=g64 (za7 b i) l:=by
       unfold g64
       rw [List.getD_eq_getElem?_getD,List.getElem?_set_ne (by omega),←List.getD_eq_getElem?_getD]
     rw [hgs]
     exact Nat.lt_of_lt_of_le (hb l hl) (Nat.pow_le_pow_right (by decide) (by omega))
end Go.Sym.Pol

namespace Go.Sym.Pol
open Go.Sym.Lp
theorem yjc (y:UInt8) {k:Nat} (h:k<8):(y>>>UInt8.ofNat k&&&UInt8.ofNat 1=UInt8.ofNat 1)↔y.toNat/ 2^k%2=1:=by
  have hk:(UInt8.ofNat k).toNat=k:=by rw [UInt8.toNat_ofNat'];omega
  rw [←UInt8.toNat_inj,UInt8.toNat_and,UInt8.toNat_shiftRight,hk,Nat.mod_eq_of_lt h]
  show (y.toNat>>>k)&&&(2^1-1)=1↔_
  rw [Nat.and_two_pow_sub_one_eq_mod,Nat.shiftRight_eq_div_pow]
theorem zw6 (y k:Nat):y%2^(k+1)=y%2^k+2^k*(y/ 2^k%2):=by
  rw [Nat.pow_succ,Nat.mod_mul]
theorem zqz {P:Nat→Bool} {i y:Nat} (hP: ∀k,k<8→(P (8*i+k)=true↔y/ 2^k%2=1)): ∀k,k≤8→zcn P (8*i+k)=zcn P (8*i)+2^(8*i)*(y%2^k)
  |0,_=>by rw [Nat.pow_zero,Nat.mod_one,Nat.mul_zero];rfl
  |k+1,h=>by
   have ih:=zqz hP k (by omega)
   show (zcn P (8*i+k)+if P (8*i+k)=true then 2^(8*i+k) else 0)=_
   rw [ih,zw6,Nat.mul_add,←Nat.mul_assoc,←Nat.pow_add]
   by_cases hp:P (8*i+k)=true
   ·rw [if_pos hp,(hP k (by omega)).1 hp];omega
   ·rw [if_neg hp]
    have:y/ 2^k%2=0:=by
      have:=mt (hP k (by omega)).2 hp
      omega
    rw [this];omega
theorem zji {P:Nat→Bool} {b:List UInt8} {n:Nat} (hP: ∀i k,i<n→k<8→(P (8*i+k)=true↔(b.getD i 0).toNat/ 2^k%2=1)): ∀i,i≤n→zcn P (8*i)=leN b i
  |0,_=>rfl
  |i+1,h=>by
   have hb:=zqz (fun k hk=>hP i k (by omega) hk) 8 (Nat.le_refl 8)
   have hy:(b.getD i 0).toNat<2^8:=(b.getD i 0).toNat_lt
   rw [Nat.mod_eq_of_lt hy] at hb
   show zcn P (8*i+8)=leN b i+_
   rw [hb,zji hP i (by omega)]
theorem z9z {s:List UInt8} {at' n:Nat} (hn:n≤16):
    ws (zqi s at' n)=leN ((s.drop at').take n) n+2^(8*n):=by
  rw [(zv1 s at' hn).1,zji (b:=(s.drop at').take n) (n:=n) ?_ n (Nat.le_refl n)]
  intro i k hi hk
  have e:((s.drop at').take n).getD i 0=s.getD (at'+i) 0:=by
    rw [List.getD_eq_getElem?_getD,List.getElem?_take_of_lt hi,List.getElem?_drop,←List.getD_eq_getElem?_getD]
  unfold zc2
  rw [e,decide_eq_true_iff,show (8*i+k)/ 8=i by omega,show (8*i+k)%8=k by omega]
  exact yjc _ hk
end Go.Sym.Pol

namespace Go.Sym.Pol
open Go.Sym.Lp
theorem zrt (x:UInt64) {k:Nat} (h:k<64):(x>>>UInt64.ofNat k).toNat=x.toNat/ 2^k:=by
  have hk:(UInt64.ofNat k).toNat=k:=by rw [UInt64.toNat_ofNat'];omega
  rw [UInt64.toNat_shiftRight,hk,Nat.mod_eq_of_lt h,Nat.shiftRight_eq_div_pow]
theorem ydm (x y:UInt64) {k:Nat} (h:k<64) (hx:x.toNat<2^k) (hy:y.toNat*2^k<2^64):(x|||y<<<UInt64.ofNat k).toNat=x.toNat+2^k*y.toNat:=by
  have hk:(UInt64.ofNat k).toNat=k:=by rw [UInt64.toNat_ofNat'];omega
  rw [UInt64.toNat_or,UInt64.toNat_shiftLeft,hk,Nat.mod_eq_of_lt h,Nat.shiftLeft_eq,Nat.mod_eq_of_lt hy,Nat.or_comm,Nat.mul_comm,←Nat.two_pow_add_eq_or_of_lt hx,Nat.add_comm]
theorem z64 {a b c:UInt64} (hc:c.toNat≤1):ws (ydl [a,b,c])=w3 [a,b,c]∧ ∀l,l<5→(g64 (ydl [a,b,c]) l).toNat<67108864:=by
  have ha:=a.toNat_lt
  have hb:=b.toNat_lt
  have e0:(a&&&M26).toNat=a.toNat%67108864:=zbe a
  have e1:(a>>>(26:UInt64)&&&M26).toNat=a.toNat/ 67108864%67108864:=by rw [zbe,zck]
  have f2:(b<<<(12:UInt64)).toNat=4096*(b.toNat%4503599627370496):=by
    rw [UInt64.toNat_shiftLeft,Nat.shiftLeft_eq];show b.toNat*4096%18446744073709551616=_;omega
  have g2:(a>>>(52:UInt64)).toNat=a.toNat/ 4503599627370496:=zrt a (k:=52) (by decide)
  have o2:(a>>>(52:UInt64)|||b<<<(12:UInt64)).toNat=a.toNat/ 4503599627370496+4096*(b.toNat%4503599627370496):=by
    have hlt:a.toNat/ 4503599627370496<2^12:=by show _<4096;omega
    rw [UInt64.toNat_or,f2,g2,Nat.or_comm]
    show 2^12*(b.toNat%4503599627370496)|||_=_
    rw [←Nat.two_pow_add_eq_or_of_lt hlt,Nat.add_comm]
  have e2:((a>>>(52:UInt64)|||b<<<(12:UInt64))&&&M26).toNat=(a.toNat/ 4503599627370496+4096*(b.toNat%4503599627370496))%67108864:=by rw [zbe,o2]
  have g3:(b>>>(14:UInt64)).toNat=b.toNat/ 16384:=zrt b (k:=14) (by decide)
  have e3:(b>>>(14:UInt64)&&&M26).toNat=b.toNat/ 16384%67108864:=by rw [zbe,g3]
  have g4:(b>>>(40:UInt64)).toNat=b.toNat/ 1099511627776:=zrt b (k:=40) (by decide)
  have e4:(b>>>(40:UInt64)|||c<<<(24:UInt64)).toNat=b.toNat/ 1099511627776+16777216*c.toNat:=by
    rw [show (c<<<(24:UInt64))=c<<<UInt64.ofNat 24 from rfl,ydm _ c (k:=24) (by decide) (by rw [g4];show _<16777216;omega) (by show c.toNat*16777216<18446744073709551616;omega),g4]
  refine ⟨?_,?_⟩
  ·show (a&&&M26).toNat+67108864*(a>>>(26:UInt64)&&&M26).toNat+4503599627370496*((a>>>(52:UInt64)|||b<<<(12:UInt64))&&&M26).toNat+302231454903657293676544*(b>>>(14:UInt64)&&&M26).toNat+20282409603651670423947251286016*(b>>>(40:UInt64)|||c<<<(24:UInt64)).toNat=a.toNat+18446744073709551616*b.toNat+340282366920938463463374607431768211456*c.toNat
   rw [e0,e1,e2,e3,e4]
   omega
  ·intro l hl
   have:l=0∨l=1∨l=2∨l=3∨l=4:=by omega
   rcases this with rfl|rfl|rfl|rfl|rfl
   ·show (a&&&M26).toNat<_;omega
   ·show (a>>>(26:UInt64)&&&M26).toNat<_;omega
   ·show ((a>>>(52:UInt64)|||b<<<(12:UInt64))&&&M26).toNat<_;omega
   ·show (b>>>(14:UInt64)&&&M26).toNat<_;omega
   ·show (b>>>(40:UInt64)|||c<<<(24:UInt64)).toNat<_;omega
end Go.Sym.Pol

namespace Go.Sym.Pol
open Go.Sym.Lp
theorem zq3 {b:List UInt8} (hb:b.length≤16):
    ws (zd7 b)=leN b b.length+2^(8*b.length)∧ ∀l,l<5→(g64 (zd7 b) l).toNat<67108864:=by
  obtain ⟨hv,hl⟩:=zvq b b.length hb
  obtain ⟨n,hn⟩: ∃n,n=b.length:=⟨_,rfl⟩
  rw [←hn] at hv hl hb ⊢
  have hl3:n/ 8<3:=by omega
  have hg:(g64 (za7 b n) (n/ 8)).toNat<2^(8*(n%8)):=by
    have:=hl (n/ 8) hl3
    rwa [show min 64 (8*n-64*(n/ 8))=8*(n%8) by omega] at this
  have ho:=z4t (a:=g64 (za7 b n) (n/ 8)) (k:=8*(n%8)) (by omega) hg
  have hs:=z4h (zd1 b n) hl3 (g64 (za7 b n) (n/ 8)|||UInt64.ofNat 1<<<UInt64.ofNat (8*(n%8)))
  rw [ho,Nat.mul_add,←Nat.pow_add,show 64*(n/ 8)+8*(n%8)=8*n by omega] at hs
  have hW:ldW b=(za7 b n).set (n/ 8) (g64 (za7 b n) (n/ 8)|||UInt64.ofNat 1<<<UInt64.ofNat (8*(n%8))):=by
    rw [hn];rfl
  have hw3:w3 (ldW b)=leN b n+2^(8*n):=by rw [hW,←hv];omega
  have hlen:(ldW b).length=3:=by rw [hW,List.length_set];exact zd1 _ _
  obtain ⟨x,y,z,e⟩:=zqy hlen
  have hle:leN b n<2^(8*n)∨True:=Or.inr trivial
  have hz:z.toNat≤1:=by
    have h2:(g64 (za7 b n) 2).toNat<2^(min 64 (8*n-64*2)):=hl 2 (by decide)
    rw [show min 64 (8*n-64*2)=0 by omega] at h2
    have h2':(g64 (za7 b n) 2).toNat=0:=by omega
    have hz0:z=g64 (ldW b) 2:=by rw [e];rfl
    by_cases h16:n/ 8=2
    ·have hgs:g64 (ldW b) 2=g64 (za7 b n) (n/ 8)|||UInt64.ofNat 1<<<UInt64.ofNat (8*(n%8)):=by
       rw [hW];unfold g64
       rw [h16,List.getD_eq_getElem?_getD,List.getElem?_set_self (by rw [zd1];decide)];rfl
     rw [hz0,hgs,ho,h16,h2',show 8*(n%8)=0 by omega]
     exact Nat.le_refl 1
    ·have hgs:g64 (ldW b) 2=g64 (za7 b n) 2:=by
       rw [hW];unfold g64
       rw [List.getD_eq_getElem?_getD,List.getElem?_set_ne (by omega),←List.getD_eq_getElem?_getD]
     rw [hz0,hgs,h2']
     exact Nat.zero_le 1
  obtain ⟨q1,q2⟩:=z64 (a:=x) (b:=y) hz
  unfold zd7
  rw [e]
  rw [e] at hw3
  exact ⟨q1.trans hw3,q2⟩
end Go.Sym.Pol

namespace Go.Sym.Pol
open Go.Sym.Lp
theorem z7i (key s:List UInt8): ∀t,t≤(s.length+15)/ 16→
    ws (zb4 (x1 (zaj key) 128) [0,0,0,0,0] s t)%pP=ws (zec key s t)%pP∧
    (∀i,i<5→(g64 (zb4 (x1 (zaj key) 128) [0,0,0,0,0] s t) i).toNat<134217728)∧(∀i,i<5→(g64 (zec key s t) i).toNat<134217728)
  |0,_=>by
   have z: ∀i,i<5→(g64 [0,0,0,0,0] i).toNat<134217728:=by decide
   exact ⟨rfl,z,z⟩
  |t+1,h=>by
   obtain ⟨e,b1,b2⟩:=z7i key s t (by omega)
   have hR: ∀i,i<5→(g64 (x1 (zaj key) 128) i).toNat<67108864:=fun l hl=>Nat.lt_of_lt_of_le ((zj4 (zaj key) 128 (by decide)).2 l hl) (Nat.pow_le_pow_right (n:=2) (by decide) (Nat.min_le_left 26 _))
   have hRl:=zbs (zaj key) 128
   obtain ⟨n,hn⟩: ∃n,n=min 16 (s.length-16*t):=⟨_,rfl⟩
   have hbl:((s.drop (16*t)).take 16).length=n:=by rw [List.length_take,List.length_drop,hn]
   have hbe:(s.drop (16*t)).take n=(s.drop (16*t)).take 16:=by
     have h1:=List.take_take (i:=n) (j:=16) (l:=s.drop (16*t))
     rw [Nat.min_eq_left (by omega)] at h1
     rw [←h1]
     exact List.take_of_length_le (by rw [hbl];exact Nat.le_refl _)
   obtain ⟨v1,c1⟩:=zq3 (b:=(s.drop (16*t)).take 16) (by omega)
   obtain ⟨_,c2⟩:=zv1 s (16*t) (n:=n) (by omega)
   have v2:=z9z (s:=s) (at':=16*t) (n:=n) (by omega)
   rw [hbe] at v2
   rw [hbl,←v2] at v1
   have z5:([0,0,0,0,0]:List UInt64).length=5:=rfl
   have la:=zez (r:=x1 (zaj key) 128) z5 s t
   have lr:=zp7 key s t
   have st:=z2c la lr hRl (zcr _) (zhx s (16*t) n) b1 b2 hR c1 c2 e v1
   obtain ⟨_,d1⟩:=zkj la (zcr ((s.drop (16*t)).take 16)) b1 c1
   obtain ⟨_,d2⟩:=zkj lr (zhx s (16*t) n) b2 c2
   have f1:=(zq7 (zhu (zb4 (x1 (zaj key) 128) [0,0,0,0,0] s t) (zd7 ((s.drop (16*t)).take 16))) hRl d1 hR).2
   have f2:=(zqc (zhu (zec key s t) (zqi s (16*t) n)) hRl d2 hR).2
   rw [←zqw lr (zhx s (16*t) n)] at f2
   rw [hn] at st f2
   exact ⟨st,f1,f2⟩
end Go.Sym.Pol

namespace Go.Sym.Pol
open Go.Sym.Lp
theorem z9e {x y:List UInt64} (hx:x.length=5) (hy:y.length=5) (bx: ∀i,i<5→(g64 x i).toNat<67108864) (bz: ∀i,i<5→(g64 y i).toNat<67108864) (e:ws x=ws y):x=y:=by
  obtain ⟨a,b,c,d,f,rfl⟩:=zek hx
  obtain ⟨r,s,t,u,v,rfl⟩:=zek hy
  have ha:a.toNat<67108864:=bx 0 (by decide)
  have hb:b.toNat<67108864:=bx 1 (by decide)
  have hc:c.toNat<67108864:=bx 2 (by decide)
  have hd:d.toNat<67108864:=bx 3 (by decide)
  have hf:f.toNat<67108864:=bx 4 (by decide)
  have hr:r.toNat<67108864:=bz 0 (by decide)
  have hs:s.toNat<67108864:=bz 1 (by decide)
  have ht:t.toNat<67108864:=bz 2 (by decide)
  have hu:u.toNat<67108864:=bz 3 (by decide)
  have hv:v.toNat<67108864:=bz 4 (by decide)
  simp only [ws] at e
  have e0:a=r:=UInt64.toNat_inj.1 (by omega)
  have e1:b=s:=UInt64.toNat_inj.1 (by omega)
  have e2:c=t:=UInt64.toNat_inj.1 (by omega)
  have e3:d=u:=UInt64.toNat_inj.1 (by omega)
  have e4:f=v:=UInt64.toNat_inj.1 (by omega)
  rw [e0,e1,e2,e3,e4]
end Go.Sym.Pol

namespace Go.Sym.Pol
open Go.Sym.Lp
theorem yfo {key:List UInt8} (h:16≤key.length): ∃a0 a1 a2 a3 a4 a5 a6 a7 a8 a9 b0 b1 b2 b3 b4 b5 t,key=a0 ::a1 ::a2 ::a3 ::a4 ::a5 ::a6 ::a7 ::a8 ::a9 ::b0 ::b1 ::b2 ::b3 ::b4 ::b5 ::t:=by
  match key,h with
  |a0 ::a1 ::a2 ::a3 ::a4 ::a5 ::a6 ::a7 ::a8 ::a9 ::b0 ::b1 ::b2 ::b3 ::b4 ::b5 ::t,_=>exact ⟨a0,a1,a2,a3,a4,a5,a6,a7,a8,a9,b0,b1,b2,b3,b4,b5,t,rfl⟩
theorem zea (a:UInt8):a&&&255=a:=by
  apply UInt8.toNat_inj.1
  rw [UInt8.toNat_and]
  show a.toNat&&&(2^8-1)=_
  rw [Nat.and_two_pow_sub_one_eq_mod]
  exact Nat.mod_eq_of_lt a.toNat_lt
theorem yet {key:List UInt8} (h:16≤key.length): ∀i,i<16→(cC (cA (key.take 16) 4) 3).getD i 0=key.getD i 0&&&zu9.getD i 0:=by
  obtain ⟨a0,a1,a2,a3,a4,a5,a6,a7,a8,a9,b0,b1,b2,b3,b4,b5,t,rfl⟩:=yfo h
  have e:cC (cA (List.take 16 (a0 ::a1 ::a2 ::a3 ::a4 ::a5 ::a6 ::a7 ::a8 ::a9 ::b0 ::b1 ::b2 ::b3 ::b4 ::b5 ::t)) 4) 3= [a0,a1,a2,a3&&&15,a4&&&252,a5,a6,a7&&&15,a8&&&252,a9,b0,b1&&&15,b2&&&252,b3,b4,b5&&&15]:=rfl
  rw [e]
  intro i hi
  have hc:i=0∨i=1∨i=2∨i=3∨i=4∨i=5∨i=6∨i=7∨i=8∨i=9∨i=10∨i=11∨i=12∨i=13∨i=14∨i=15:=by omega
  rcases hc with rfl|rfl|rfl|rfl|rfl|rfl|rfl|rfl|rfl|rfl|rfl|rfl|rfl|rfl|rfl|rfl
  ·exact (zea _).symm
  ·exact (zea _).symm
  ·exact (zea _).symm
  ·rfl
  ·rfl
  ·exact (zea _).symm
  ·exact (zea _).symm
  ·rfl
  ·rfl
  ·exact (zea _).symm
  ·exact (zea _).symm
  ·rfl
  ·rfl
  ·exact (zea _).symm
  ·exact (zea _).symm
  ·rfl
theorem yhw {x:List UInt64} (h:x.length=5) {N:Nat} (hv:ws x=N+340282366920938463463374607431768211456) (hN:N<340282366920938463463374607431768211456) (hb: ∀l,l<5→(g64 x l).toNat<67108864):
    ws (x.set 4 (g64 x 4&&&UInt64.ofNat 16777215))=N∧ ∀l,l<5→(g64 (x.set 4 (g64 x 4&&&UInt64.ofNat 16777215)) l).toNat<67108864:=by
  obtain ⟨a,b,c,d,e,rfl⟩:=zek h
  have ha:a.toNat<67108864:=hb 0 (by decide)
  have hb':b.toNat<67108864:=hb 1 (by decide)
  have hc:c.toNat<67108864:=hb 2 (by decide)
  have hd:d.toNat<67108864:=hb 3 (by decide)
  have he:e.toNat<67108864:=hb 4 (by decide)
  have hm:(e&&&UInt64.ofNat 16777215).toNat=e.toNat%16777216:=by
    rw [UInt64.toNat_and]
    show e.toNat&&&(2^24-1)=_
    rw [Nat.and_two_pow_sub_one_eq_mod]
  simp only [ws] at hv
  have es: [a,b,c,d,e].set 4 (g64 [a,b,c,d,e] 4&&&UInt64.ofNat 16777215)= [a,b,c,d,e&&&UInt64.ofNat 16777215]:=rfl
  rw [es]
  generalize e&&&UInt64.ofNat 16777215=f at*
  refine ⟨?_,?_⟩
  ·simp only [ws]
   omega
  ·intro i hi
   have:i=0∨i=1∨i=2∨i=3∨i=4:=by omega
   rcases this with rfl|rfl|rfl|rfl|rfl
   ·exact ha
   ·exact hb'
   ·exact hc
   ·exact hd
   ·show f.toNat<_;omega
theorem z9k {key:List UInt8} (h:16≤key.length):rOf key=x1 (zaj key) 128:=by
  have hl:(cC (cA (key.take 16) 4) 3).length=16:=by rw [zze,zx4,List.length_take];omega
  have hm:=yet h
  unfold rOf
  obtain ⟨b,hb⟩: ∃b,b=cC (cA (key.take 16) 4) 3:=⟨_,rfl⟩
  rw [←hb] at hl hm ⊢
  obtain ⟨v,bd⟩:=zq3 (b:=b) (by omega)
  rw [hl] at v
  have hbits:zcn (zaj key) (8*16)=leN b 16:=zji (b:=b) (n:=16) (by
    intro i k hi hk
    unfold zaj
    rw [decide_eq_true_iff,show (8*i+k)/ 8=i by omega,show (8*i+k)%8=k by omega,hm i hi]
    exact yjc _ hk) 16 (Nat.le_refl _)
  have hlt:=zxd (zaj key) (8*16)
  rw [hbits] at hlt
  obtain ⟨v2,bd2⟩:=yhw (zcr b) (N:=leN b 16) v hlt bd
  obtain ⟨v3,bd3⟩:=zj4 (zaj key) 128 (by decide)
  refine z9e (by rw [List.length_set];exact zcr b) (zbs _ _) bd2 (fun l hl=>Nat.lt_of_lt_of_le (bd3 l hl) (Nat.pow_le_pow_right (n:=2) (by decide) (Nat.min_le_left 26 _))) ?_
  rw [v2,v3]
  exact hbits.symm
end Go.Sym.Pol

namespace Go.Sym.Pol
open Go.Sym.Lp
theorem zrj (r x:List UInt64) {A:List UInt8} (B:List UInt8): ∀t,16*t≤A.length→zb4 r x (A++B) t=zb4 r x A t
  |0,_=>rfl
  |t+1,h=>by
   simp only [zb4]
   rw [zrj r x B t (by omega)]
   congr 1
   rw [List.drop_append_of_le_length (by omega),List.take_append_of_le_length (by rw [List.length_drop];omega)]
theorem zu4 (r x:List UInt64) {A:List UInt8} (B:List UInt8) {n:Nat} (hA:A.length=16*n): ∀t,zb4 r x (A++B) (n+t)=zb4 r (zb4 r x A n) B t
  |0=>zrj r x B n (by omega)
  |t+1=>by
   show zss r (zb4 r x (A++B) (n+t)) (((A++B).drop (16*(n+t))).take 16)=zss r (zb4 r (zb4 r x A n) B t) ((B.drop (16*t)).take 16)
   rw [zu4 r x B hA t]
   congr 2
   rw [show 16*(n+t)=A.length+16*t by omega,List.drop_append]
   have h1:List.drop (A.length+16*t) A= []:=List.drop_eq_nil_of_le (by omega)
   rw [h1,List.nil_append]
   congr 1
   omega
theorem zw7 (r x:List UInt64) {A:List UInt8} (B:List UInt8) {n:Nat} (hA:A.length=16*n):zcy r (zcy r x A) B=zcy r x (A++B):=by
  unfold zcy
  rw [List.length_append,show (A.length+15)/ 16=n by omega,show (A.length+B.length+15)/ 16=n+(B.length+15)/ 16 by omega]
  exact (zu4 r x B hA _).symm
def ydr (aad b:List UInt8):List UInt8:=aad++fillB aad.length++(b++fillB b.length)++zcc aad.length++zcc b.length
theorem z2h (r:List UInt64) (aad b:List UInt8):zq8 r aad b=zcy r [0,0,0,0,0] (ydr aad b):=by
  unfold zq8
  have hf:=zb3 aad.length
  have h1:(aad++fillB aad.length).length=16*((aad.length+15)/ 16):=by rw [List.length_append,hf];omega
  have h2:(b.take (b.length-b.length%16)).length=16*(b.length/ 16):=by rw [List.length_take];omega
  rw [zw7 r _ _ h1,zw7 r _ _ (n:=(aad.length+15)/ 16+b.length/ 16) (by rw [List.length_append,h1,h2];omega)]
  congr 1
  unfold ydr
  simp only [List.append_assoc]
  rw [←List.append_assoc (b.take _) (b.drop _),List.take_append_drop]
end Go.Sym.Pol

namespace Go.Sym.Pol
open Go.Sym.Lp
abbrev Sm (x:List UInt64):Prop:= ∀i,i<5→(g64 x i).toNat<67108864
theorem yc0 {x:List UInt64} (h:x.length=5) (hb:Sm x):ws x<1361129467683753853853498429727072845824:=by
  obtain ⟨a,b,c,d,e,rfl⟩:=zek h
  have ha:a.toNat<67108864:=hb 0 (by decide)
  have hb':b.toNat<67108864:=hb 1 (by decide)
  have hc:c.toNat<67108864:=hb 2 (by decide)
  have hd:d.toNat<67108864:=hb 3 (by decide)
  have he:e.toNat<67108864:=hb 4 (by decide)
  simp only [ws]
  omega
theorem z12 {a b c d e:UInt64} (hb:Sm [a,b,c,d,e]) {A B C D E:UInt64} (hA:A=a+5) (hB:B=b+A>>>(26:UInt64)) (hC:C=c+B>>>(26:UInt64)) (hD:D=d+C>>>(26:UInt64)) (hE:E=e+D>>>(26:UInt64)):
    ws [A&&&M26,B&&&M26,C&&&M26,D&&&M26,E&&&M26]+1361129467683753853853498429727072845824*(E>>>(26:UInt64)).toNat=ws [a,b,c,d,e]+5∧Sm [A&&&M26,B&&&M26,C&&&M26,D&&&M26,E&&&M26]:=by
  have ha:a.toNat<67108864:=hb 0 (by decide)
  have hb':b.toNat<67108864:=hb 1 (by decide)
  have hc:c.toNat<67108864:=hb 2 (by decide)
  have hd:d.toNat<67108864:=hb 3 (by decide)
  have he:e.toNat<67108864:=hb 4 (by decide)
  have f5:(5:UInt64).toNat=5:=rfl
  have e0:A.toNat=a.toNat+5:=by rw [hA,xp (by omega),f5]
  have s0:=zck A
  have e1:B.toNat=b.toNat+A.toNat/ 67108864:=by rw [hB,xp (by omega),s0]
  have s1:=zck B
  have e2:C.toNat=c.toNat+B.toNat/ 67108864:=by rw [hC,xp (by omega),s1]
  have s2:=zck C
  have e3:D.toNat=d.toNat+C.toNat/ 67108864:=by rw [hD,xp (by omega),s2]
  have s3:=zck D
  have e4:E.toNat=e.toNat+D.toNat/ 67108864:=by rw [hE,xp (by omega),s3]
  have s4:=zck E
  have n0:=zbe A
  have n1:=zbe B
  have n2:=zbe C
  have n3:=zbe D
  have n4:=zbe E
  refine ⟨?_,?_⟩
  ·simp only [ws]
   rw [n0,n1,n2,n3,n4,s4]
   omega
  ·intro i hi
   have:i=0∨i=1∨i=2∨i=3∨i=4:=by omega
   rcases this with rfl|rfl|rfl|rfl|rfl
   ·show (A&&&M26).toNat<_;omega
   ·show (B&&&M26).toNat<_;omega
   ·show (C&&&M26).toNat<_;omega
   ·show (D&&&M26).toNat<_;omega
   ·show (E&&&M26).toNat<_;omega
def zjo (y:List UInt64):List UInt64:=if 0<(g64 (za9 y 4) 4>>>(26:UInt64)).toNat then (za9 y 4).set 4 (g64 (za9 y 4) 4&&&M26) else y
theorem z3h (x:List UInt64):za4 x=zjo (car (car x)):=rfl
theorem z4y (a b c d e:UInt64):za9 [a,b,c,d,e] 4=
    (let A:=a+5;let B:=b+A>>>(26:UInt64);let C:=c+B>>>(26:UInt64);let D:=d+C>>>(26:UInt64);let E:=e+D>>>(26:UInt64)
     [A&&&M26,B&&&M26,C&&&M26,D&&&M26,E]):=rfl
theorem zp4 {y:List UInt64} (h:y.length=5) (hb:Sm y):ws (zjo y)=ws y%pP∧Sm (zjo y)∧(zjo y).length=5:=by
  have hlt:=yc0 h hb
  obtain ⟨a,b,c,d,e,rfl⟩:=zek h
  unfold zjo
  rw [z4y]
  simp only
  obtain ⟨A,hA⟩: ∃A,A=a+5:=⟨_,rfl⟩
  rw [←hA]
  obtain ⟨B,hB⟩: ∃B,B=b+A>>>(26:UInt64):=⟨_,rfl⟩
  rw [←hB]
  obtain ⟨C,hC⟩: ∃C,C=c+B>>>(26:UInt64):=⟨_,rfl⟩
  rw [←hC]
  obtain ⟨D,hD⟩: ∃D,D=d+C>>>(26:UInt64):=⟨_,rfl⟩
  rw [←hD]
  obtain ⟨E,hE⟩: ∃E,E=e+D>>>(26:UInt64):=⟨_,rfl⟩
  rw [←hE]
  obtain ⟨v,s⟩:=z12 hb hA hB hC hD hE
  have h5:=yc0 (x:= [A&&&M26,B&&&M26,C&&&M26,D&&&M26,E&&&M26]) rfl s
  have hg:g64 [A&&&M26,B&&&M26,C&&&M26,D&&&M26,E] 4=E:=rfl
  rw [hg]
  unfold pP
  split
  ·rename_i h0
   have e1: [A&&&M26,B&&&M26,C&&&M26,D&&&M26,E].set 4 (E&&&M26)= [A&&&M26,B&&&M26,C&&&M26,D&&&M26,E&&&M26]:=rfl
   rw [e1]
   refine ⟨?_,s,rfl⟩
   omega
  ·rename_i h0
   refine ⟨?_,hb,rfl⟩
   omega
theorem zzc {x:List UInt64} (h:x.length=5):zh6 x=zjo (rcd (rcd x)):=by
  unfold zh6 zjo
  have hl:(rcd (rcd x)).length=5:=by rw [zfs,zfs,h]
  obtain ⟨a,b,c,d,e,he⟩:=zek hl
  rw [he]
  have e1:zcx ([a,b,c,d,e].set 0 (g64 [a,b,c,d,e] 0+5)) 5=
    (let A:=a+5+0;let B:=b+A>>>(26:UInt64);let C:=c+B>>>(26:UInt64);let D:=d+C>>>(26:UInt64);let E:=e+D>>>(26:UInt64)
     ([A&&&M26,B&&&M26,C&&&M26,D&&&M26,E&&&M26],E>>>(26:UInt64))):=rfl
  have z:a+5+0=a+5:=UInt64.add_zero _
  rw [z] at e1
  rw [e1,z4y]
  rfl
theorem z4o {x:List UInt64} (h:x.length=5) (h0:(g64 x 0).toNat<67108964) (hb: ∀i,0<i→i<5→(g64 x i).toNat<67108864):Sm (rcd x):=by
  obtain ⟨a,b,c,d,e,rfl⟩:=zek h
  have ha:a.toNat<67108964:=h0
  have hb':b.toNat<67108864:=hb 1 (by decide) (by decide)
  have hc:c.toNat<67108864:=hb 2 (by decide) (by decide)
  have hd:d.toNat<67108864:=hb 3 (by decide) (by decide)
  have he:e.toNat<67108864:=hb 4 (by decide) (by decide)
  rw [z7v]
  simp only
  have z:a+0=a:=UInt64.add_zero _
  rw [z]
  have s0:=zck a
  have n0:=zbe a
  generalize a>>>(26:UInt64)=c0 at*
  generalize a&&&M26=a0 at*
  have e1:(b+c0).toNat=b.toNat+c0.toNat:=xp (by omega)
  generalize b+c0=b1 at*
  have s1:=zck b1
  have n1:=zbe b1
  generalize b1>>>(26:UInt64)=c1 at*
  have e2:(c+c1).toNat=c.toNat+c1.toNat:=xp (by omega)
  generalize c+c1=c' at*
  have s2:=zck c'
  have n2:=zbe c'
  generalize c'>>>(26:UInt64)=c2 at*
  have e3:(d+c2).toNat=d.toNat+c2.toNat:=xp (by omega)
  generalize d+c2=d' at*
  have s3:=zck d'
  have n3:=zbe d'
  generalize d'>>>(26:UInt64)=c3 at*
  have e4:(e+c3).toNat=e.toNat+c3.toNat:=xp (by omega)
  generalize e+c3=e' at*
  have s4:=zck e'
  have n4:=zbe e'
  generalize e'>>>(26:UInt64)=c4 at*
  have m5:(5*c4).toNat=5*c4.toNat:=z3q (by show 5*c4.toNat<_;omega)
  have e5:(a0+5*c4).toNat=a0.toNat+5*c4.toNat:=by rw [xp (by omega),m5]
  intro i hi
  have:i=0∨i=1∨i=2∨i=3∨i=4:=by omega
  rcases this with rfl|rfl|rfl|rfl|rfl
  ·show (a0+5*c4).toNat<_;omega
  ·show (b1&&&M26).toNat<_;omega
  ·show (c'&&&M26).toNat<_;omega
  ·show (d'&&&M26).toNat<_;omega
  ·show (e'&&&M26).toNat<_;omega
theorem z3v {x:List UInt64} (h:x.length=5) (hb: ∀i,i<5→(g64 x i).toNat<134217728):ws (za4 x)=ws x%pP∧Sm (za4 x)∧(za4 x).length=5:=by
  obtain ⟨k1,v1,l1,b1,t1⟩:=z1s h (fun i hi=>by have:=hb i hi;omega)
  rw [z3h]
  have hc1: ∃k,ws (car x)=ws (car (car x))+k*pP∧(car (car x)).length=5∧Sm (car (car x)):=by
    refine z6f l1 ?_ (b1 1 (by decide))
    intro i hi hi1
    obtain ⟨a,b,c,d,e,rfl⟩:=zek h
    rw [zzs]
    have:i=0∨i=2∨i=3∨i=4:=by omega
    rcases this with rfl|rfl|rfl|rfl
    ·exact (zbe _).symm ▸ Nat.mod_lt _ (by decide)
    ·exact (zbe _).symm ▸ Nat.mod_lt _ (by decide)
    ·exact (zbe _).symm ▸ Nat.mod_lt _ (by decide)
    ·exact (zbe _).symm ▸ Nat.mod_lt _ (by decide)
  obtain ⟨k2,v2,l2,b2⟩:=hc1
  obtain ⟨v3,s3,l3⟩:=zp4 l2 b2
  refine ⟨?_,s3,l3⟩
  rw [v3,v1,v2,Nat.add_mul_mod_self_right,Nat.add_mul_mod_self_right]
theorem zyq {x:List UInt64} (h:x.length=5) (hb: ∀i,i<5→(g64 x i).toNat<134217728):ws (zh6 x)=ws x%pP∧Sm (zh6 x)∧(zh6 x).length=5:=by
  obtain ⟨k1,v1,l1,a1,b1⟩:=zm2 h (B:=134217728) (by decide) (fun i hi=>Nat.le_of_lt (hb i hi))
  obtain ⟨k2,v2,l2,_,_⟩:=zm2 l1 (B:=134217728) (by decide) (fun i hi=>by
    by_cases h0:i=0
    ·rw [h0];omega
    ·have:=b1 i (by omega) hi;omega)
  have s2:=z4o l1 (by omega) b1
  rw [zzc h]
  obtain ⟨v3,s3,l3⟩:=zp4 l2 s2
  refine ⟨?_,s3,l3⟩
  rw [v3,v1,v2,Nat.add_mul_mod_self_right,Nat.add_mul_mod_self_right]
theorem zn4 {lo x up l k N:Nat} (hk:k<26) (hlo:lo<2^(26*l)) (hN:N=lo+2^(26*l)*(x+67108864*up)):N/ 2^(26*l+k)%2=x/ 2^k%2:=by
  have h1:N/ 2^(26*l)=x+67108864*up:=by
    rw [hN,Nat.add_mul_div_left _ _ (Nat.pow_pos (by decide)),Nat.div_eq_of_lt hlo,Nat.zero_add]
  have h2:67108864=2^k*(2*2^(25-k)):=by
    rw [show 2*2^(25-k)=2^(25-k+1) by rw [Nat.pow_succ,Nat.mul_comm],←Nat.pow_add,show k+(25-k+1)=26 by omega]
  rw [Nat.pow_add,←Nat.div_div_eq_div_mul,h1,h2,Nat.mul_assoc,Nat.add_mul_div_left _ _ (Nat.pow_pos (by decide)),Nat.mul_assoc,Nat.add_mul_mod_self_left]
theorem z7m {x:List UInt64} (h:x.length=5) (hb:Sm x) {j:Nat} (hj:j<130):zgq x j=ws x/ 2^j%2:=by
  obtain ⟨a,b,c,d,e,rfl⟩:=zek h
  have ha:a.toNat<67108864:=hb 0 (by decide)
  have hb':b.toNat<67108864:=hb 1 (by decide)
  have hc:c.toNat<67108864:=hb 2 (by decide)
  have hd:d.toNat<67108864:=hb 3 (by decide)
  have he:e.toNat<67108864:=hb 4 (by decide)
  unfold zgq
  have hk:j%26<26:=Nat.mod_lt _ (by decide)
  have hjj:j=26*(j/ 26)+j%26:=(Nat.div_add_mod j 26).symm
  generalize j%26=k at*
  generalize j/ 26=l at*
  subst hjj
  have:l=0∨l=1∨l=2∨l=3∨l=4:=by omega
  symm
  rcases this with rfl|rfl|rfl|rfl|rfl
  ·exact zn4 (lo:=0) (x:=a.toNat) (up:=b.toNat+67108864*c.toNat+4503599627370496*d.toNat+302231454903657293676544*e.toNat) hk (by decide) (by simp only [ws];omega)
  ·exact zn4 (lo:=a.toNat) (x:=b.toNat) (up:=c.toNat+67108864*d.toNat+4503599627370496*e.toNat) hk (by omega) (by simp only [ws];omega)
  ·exact zn4 (lo:=a.toNat+67108864*b.toNat) (x:=c.toNat) (up:=d.toNat+67108864*e.toNat) hk (by omega) (by simp only [ws];omega)
  ·exact zn4 (lo:=a.toNat+67108864*b.toNat+4503599627370496*c.toNat) (x:=d.toNat) (up:=e.toNat) hk (by omega) (by simp only [ws];omega)
  ·exact zn4 (lo:=a.toNat+67108864*b.toNat+4503599627370496*c.toNat+302231454903657293676544*d.toNat) (x:=e.toNat) (up:=0) hk (by omega) (by simp only [ws];omega)
theorem zz5 {x:List UInt64} (h:x.length=5) (hb:Sm x) {i:Nat} (hi:i<16): ∀k,k≤8→rbv x i k=ws x/ 2^(8*i)%2^k
  |0,_=>by rw [Nat.pow_zero,Nat.mod_one];rfl
  |k+1,hk=>by
   rw [zw6,rbv,zz5 h hb hi k (by omega),z7m h hb (by omega),Nat.pow_add,Nat.div_div_eq_div_mul,Nat.mul_comm (2^k)]
theorem yah {x:List UInt64} (h:x.length=5) (hb:Sm x):(zmv x).toNat=ws x%18446744073709551616∧(zf7 x).toNat=ws x/ 18446744073709551616%18446744073709551616:=by
  obtain ⟨a,b,c,d,e,rfl⟩:=zek h
  have ha:a.toNat<67108864:=hb 0 (by decide)
  have hb':b.toNat<67108864:=hb 1 (by decide)
  have hc:c.toNat<67108864:=hb 2 (by decide)
  have hd:d.toNat<67108864:=hb 3 (by decide)
  have he:e.toNat<67108864:=hb 4 (by decide)
  have orp: ∀(p q:UInt64) (k m:Nat),p.toNat<2^k→q.toNat=2^k*m→(p|||q).toNat=p.toNat+2^k*m:=by
    intro p q k m hp hq
    rw [UInt64.toNat_or,hq,Nat.or_comm,←Nat.two_pow_add_eq_or_of_lt hp,Nat.add_comm]
  have f1:(b<<<(26:UInt64)).toNat=67108864*b.toNat:=by
    rw [UInt64.toNat_shiftLeft,Nat.shiftLeft_eq];show b.toNat*67108864%18446744073709551616=_;omega
  have f2:(c<<<(52:UInt64)).toNat=4503599627370496*(c.toNat%4096):=by
    rw [UInt64.toNat_shiftLeft,Nat.shiftLeft_eq];show c.toNat*4503599627370496%18446744073709551616=_;omega
  have f3:(c>>>(12:UInt64)).toNat=c.toNat/ 4096:=zrt c (k:=12) (by decide)
  have f4:(d<<<(14:UInt64)).toNat=16384*d.toNat:=by
    rw [UInt64.toNat_shiftLeft,Nat.shiftLeft_eq];show d.toNat*16384%18446744073709551616=_;omega
  have f5:(e<<<(40:UInt64)).toNat=1099511627776*(e.toNat%16777216):=by
    rw [UInt64.toNat_shiftLeft,Nat.shiftLeft_eq];show e.toNat*1099511627776%18446744073709551616=_;omega
  have o1:(a|||b<<<(26:UInt64)).toNat=a.toNat+67108864*b.toNat:=orp _ _ 26 _ ha f1
  have o2:(a|||b<<<(26:UInt64)|||c<<<(52:UInt64)).toNat=a.toNat+67108864*b.toNat+4503599627370496*(c.toNat%4096):=by
    rw [orp _ _ 52 _ (by rw [o1];omega) f2,o1]
  have o3:(c>>>(12:UInt64)|||d<<<(14:UInt64)).toNat=c.toNat/ 4096+16384*d.toNat:=by
    rw [orp _ _ 14 _ (by rw [f3];omega) f4,f3]
  have o4:(c>>>(12:UInt64)|||d<<<(14:UInt64)|||e<<<(40:UInt64)).toNat=c.toNat/ 4096+16384*d.toNat+1099511627776*(e.toNat%16777216):=by
    rw [orp _ _ 40 _ (by rw [o3];omega) f5,o3]
  refine ⟨?_,?_⟩
  ·show (a|||b<<<(26:UInt64)|||c<<<(52:UInt64)).toNat=_
   rw [o2]
   simp only [ws]
   omega
  ·show (c>>>(12:UInt64)|||d<<<(14:UInt64)|||e<<<(40:UInt64)).toNat=_
   rw [o4]
   simp only [ws]
   omega
theorem yby {x:List UInt64} (h:x.length=5) (hb:Sm x) {i:Nat} (hi:i<16):((if 8≤i then zf7 x else zmv x)>>>UInt64.ofNat (8*(i%8))&&&255).toNat=ws x/ 2^(8*i)%256:=by
  obtain ⟨hl,hh⟩:=yah h hb
  have ha: ∀y:UInt64,(y&&&255).toNat=y.toNat%256:=by
    intro y
    rw [UInt64.toNat_and]
    show y.toNat&&&(2^8-1)=_
    rw [Nat.and_two_pow_sub_one_eq_mod]
  rw [ha,zrt _ (by omega)]
  generalize ws x=N at*
  have cut: ∀(M k:Nat),k≤56→M%18446744073709551616/ 2^k%256=M/ 2^k%256:=by
    intro M k hk
    have e:18446744073709551616=2^k*(256*2^(56-k)):=by
      rw [show 256*2^(56-k)=2^(8+(56-k)) by rw [Nat.pow_add],←Nat.pow_add,show k+(8+(56-k))=64 by omega]
    rw [e,Nat.mod_mul_right_div_self,Nat.mod_mul_right_mod]
  split
  ·rename_i h8
   rw [hh,cut _ _ (by omega),show 18446744073709551616=2^64 from rfl,Nat.div_div_eq_div_mul,←Nat.pow_add,show 64+8*(i%8)=8*i by omega]
  ·rename_i h8
   rw [hl,cut _ _ (by omega),show 8*(i%8)=8*i by omega]
theorem zwe {x:List UInt64} (h:x.length=5) (hb:Sm x) (key:List UInt8): ∀i,i≤16→
    (zb2 (zmv x) (zf7 x) key i).1=(rts x (key.drop 16) i).1∧(zb2 (zmv x) (zf7 x) key i).2.toNat=(rts x (key.drop 16) i).2
  |0,_=>⟨rfl,rfl⟩
  |i+1,hi=>by
   obtain ⟨e1,e2⟩:=zwe h hb key i (by omega)
   have hle:=zs6 x (key.drop 16) i
   have hby:=yby h hb (i:=i) (by omega)
   have hr:=zz5 h hb (i:=i) (by omega) 8 (Nat.le_refl _)
   have hk:(key.drop 16).getD i 0=key.getD (16+i) 0:=by
     rw [List.getD_eq_getElem?_getD,List.getElem?_drop,←List.getD_eq_getElem?_getD]
   have hkl:(key.getD (16+i) 0).toUInt64.toNat=(key.getD (16+i) 0).toNat:=rfl
   have hk2:=(key.getD (16+i) 0).toNat_lt
   simp only [zb2,rts]
   rw [hk]
   generalize (if 8≤i then zf7 x else zmv x)>>>UInt64.ofNat (8*(i%8))&&&255=by1 at*
   have hb2:by1.toNat<256:=by omega
   have s1:(by1+(key.getD (16+i) 0).toUInt64).toNat=by1.toNat+(key.getD (16+i) 0).toNat:=by rw [xp (by omega),hkl]
   have s2:((zb2 (zmv x) (zf7 x) key i).2+(by1+(key.getD (16+i) 0).toUInt64)).toNat=(rts x (key.drop 16) i).2+rbv x i 8+(key.getD (16+i) 0).toNat:=by
     rw [xp (by omega),s1,e2,hby,hr]
     show _+(_%256+_)=_+_%256+_
     omega
   refine ⟨?_,?_⟩
   ·rw [e1]
    congr 1
    apply UInt8.toNat_inj.1
    rw [UInt64.toNat_toUInt8,s2,UInt8.toNat_ofNat']
   ·rw [show (8:UInt64)=UInt64.ofNat 8 from rfl,zrt _ (by decide),s2]
theorem z22 {key:List UInt8} (h:16≤key.length) (s:List UInt8):zgg (zcy (rOf key) [0,0,0,0,0] s) key=zi5 key s:=by
  rw [z9k h]
  unfold zcy zi5 zqf zgg
  obtain ⟨e,b1,b2⟩:=z7i key s ((s.length+15)/ 16) (Nat.le_refl _)
  have z5:([0,0,0,0,0]:List UInt64).length=5:=rfl
  have l1:=zez (r:=x1 (zaj key) 128) z5 s ((s.length+15)/ 16)
  have l2:=zp7 key s ((s.length+15)/ 16)
  obtain ⟨v1,s1,q1⟩:=z3v l1 b1
  obtain ⟨v2,s2,q2⟩:=zyq l2 b2
  have hw:=z9e q1 q2 s1 s2 (by rw [v1,v2,e])
  rw [←hw]
  exact (zwe q1 s1 key 16 (Nat.le_refl _)).1
theorem z5s {key:List UInt8} (h:16≤key.length) (aad b:List UInt8):zgg (zq8 (rOf key) aad b) key=zi5 key (ydr aad b):=by
  rw [z2h]
  exact z22 h _
end Go.Sym.Pol
