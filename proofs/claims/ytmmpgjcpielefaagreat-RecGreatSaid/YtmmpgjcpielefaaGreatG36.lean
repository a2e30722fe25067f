/-
  Contracts of functions of the program, each said of symbolic values, and plain laws; no condition beyond each statement's own.
-/
import Derived.Test.YtmmpgjcpielefaaGreatG35
import Derived.Test.YtmmpgjcpielefaaGreatG32
import Derived.Test.YtmmpgjcpielefaaGreatG34
set_option linter.unusedSimpArgs false
set_option linter.unusedVariables false
namespace Go.Sym.Pol
open Go.Sym.Lp
def w3:List UInt64→Nat
  | [a,b,c]=>a.toNat+18446744073709551616*b.toNat+340282366920938463463374607431768211456*c.toNat
  |_=>0
theorem zpq {x:List UInt64} (h:x.length=3): ∃a b c,x= [a,b,c]:=by
  match x,h with
  | [a,b,c],_=>exact ⟨a,b,c,rfl⟩
theorem z5i {x:List UInt64} (h:x.length=3) {l:Nat} (hl:l<3) (v:UInt64):
    w3 (x.set l v)+2^(64*l)*(g64 x l).toNat=w3 x+2^(64*l)*v.toNat:=by
  obtain ⟨a,b,c,rfl⟩:=zpq h
  have:l=0∨l=1∨l=2:=by omega
  rcases this with rfl|rfl|rfl
  ·show v.toNat+_+_+1*a.toNat=a.toNat+_+_+1*v.toNat;omega
  ·show _+18446744073709551616*v.toNat+_+18446744073709551616*b.toNat=_+18446744073709551616*b.toNat+_+18446744073709551616*v.toNat;omega
  ·show _+_+340282366920938463463374607431768211456*v.toNat+340282366920938463463374607431768211456*c.toNat=_+_+340282366920938463463374607431768211456*c.toNat+340282366920938463463374607431768211456*v.toNat;omega
theorem z7y {a:UInt64} {y:UInt8} {k:Nat} (hk:k≤56) (h:a.toNat<2^k):(a|||y.toUInt64<<<UInt64.ofNat k).toNat=a.toNat+2^k*y.toNat:=by
  have hk2:(UInt64.ofNat k).toNat=k:=by rw [UInt64.toNat_ofNat'];omega
  have hy:y.toNat<256:=y.toNat_lt
  have hp:2^k≤2^56:=Nat.pow_le_pow_right (by decide) hk
  have hm:2^k*y.toNat≤2^56*255:=Nat.mul_le_mul hp (by omega)
  rw [UInt64.toNat_or,UInt64.toNat_shiftLeft,hk2,Nat.mod_eq_of_lt (a:=k) (by omega)]
  show a.toNat|||(y.toNat<<<k)%2^64=_
  rw [Nat.shiftLeft_eq,Nat.mul_comm y.toNat,Nat.mod_eq_of_lt (by omega),Nat.or_comm,←Nat.two_pow_add_eq_or_of_lt h,Nat.add_comm]
def leN (b:List UInt8):Nat→Nat
  |0=>0
  |i+1=>leN b i+2^(8*i)*(b.getD i 0).toNat
theorem zto (b:List UInt8): ∀i,i≤16→w3 (zay b i)=leN b i∧ ∀l,l<3→(g64 (zay b i) l).toNat<2^(min 64 (8*i-64*l))
  |0,_=>⟨rfl,fun l hl=>by
   have h0:(g64 (zay b 0) l).toNat=0:=by
     have:l=0∨l=1∨l=2:=by omega
     rcases this with rfl|rfl|rfl<;>rfl
   rw [h0]
   exact Nat.pow_pos (by decide)⟩
  |i+1,h=>by
   obtain ⟨hv,hb⟩:=zto b i (by omega)
   have hl3:i/ 8<3:=by omega
   have hg:(g64 (zay b i) (i/ 8)).toNat<2^(8*(i%8)):=by
     have:=hb (i/ 8) hl3
     rwa [show min 64 (8*i-64*(i/ 8))=8*(i%8) by omega] at this
   have ho:=z7y (a:=g64 (zay b i) (i/ 8)) (y:=b.getD i 0) (k:=8*(i%8)) (by omega) hg
   simp only [zay,leN]
   refine ⟨?_,?_⟩
   ·have hs:=z5i (zdr b i) hl3 (g64 (zay b i) (i/ 8)|||(b.getD i 0).toUInt64<<<UInt64.ofNat (8*(i%8)))
    rw [ho,Nat.mul_add,←Nat.mul_assoc,←Nat.pow_add,show 64*(i/ 8)+8*(i%8)=8*i by omega] at hs
    rw [←hv]
    omega
   ·intro l hl
    by_cases hli:l=i/ 8
    ·rw [hli]
     have hgs:g64 ((zay b i).set (i/ 8) (g64 (zay b i) (i/ 8)|||(b.getD i 0).toUInt64<<<UInt64.ofNat (8*(i%8)))) (i/ 8)=g64 (zay b i) (i/ 8)|||(b.getD i 0).toUInt64<<<UInt64.ofNat (8*(i%8)):=by
       unfold g64
       rw [List.getD_eq_getElem?_getD,List.getElem?_set_self (by rw [zdr];exact hl3)];rfl
     have hy:(b.getD i 0).toNat<256:=(b.getD i 0).toNat_lt
     have hm:2^(8*(i%8))*(b.getD i 0).toNat≤2^(8*(i%8))*255:=Nat.mul_le_mul (Nat.le_refl _) (by omega)
     rw [hgs,ho,show min 64 (8*(i+1)-64*(i/ 8))=8*(i%8)+8 by omega,Nat.pow_add]
     show _<2^(8*(i%8))*256
     omega
    ·have hgs:g64 ((zay b i).set (i/ 8) (g64 (zay b i) (i/ 8)|||(b.getD i 0).toUInt64<<<UInt64.ofNat (8*(i%8)))) l=g64 (zay b i) l:=by
       unfold g64
       rw [List.getD_eq_getElem?_getD,List.getElem?_set_ne (by omega),←List.getD_eq_getElem?_getD]
     rw [hgs]
     exact Nat.lt_of_lt_of_le (hb l hl) (Nat.pow_le_pow_right (by decide) (by omega))
end Go.Sym.Pol

namespace Go.Sym.Pol
open Go.Sym.Lp
theorem yfj (y:UInt8) {k:Nat} (h:k<8):(y>>>UInt8.ofNat k&&&UInt8.ofNat 1=UInt8.ofNat 1)↔y.toNat/ 2^k%2=1:=by
  have hk:(UInt8.ofNat k).toNat=k:=by rw [UInt8.toNat_ofNat'];omega
  rw [←UInt8.toNat_inj,UInt8.toNat_and,UInt8.toNat_shiftRight,hk,Nat.mod_eq_of_lt h]
  show (y.toNat>>>k)&&&(2^1-1)=1↔_
  rw [Nat.and_two_pow_sub_one_eq_mod,Nat.shiftRight_eq_div_pow]
theorem zt3 (y k:Nat):y%2^(k+1)=y%2^k+2^k*(y/ 2^k%2):=by
  rw [Nat.pow_succ,Nat.mod_mul]
theorem zps {P:Nat→Bool} {i y:Nat} (hP: ∀k,k<8→(P (8*i+k)=true↔y/ 2^k%2=1)): ∀k,k≤8→zcd P (8*i+k)=zcd P (8*i)+2^(8*i)*(y%2^k)
  |0,_=>by rw [Nat.pow_zero,Nat.mod_one,Nat.mul_zero];rfl
  |k+1,h=>by
   have ih:=zps hP k (by omega)
   show (zcd P (8*i+k)+if P (8*i+k)=true then 2^(8*i+k) else 0)=_
   rw [ih,zt3,Nat.mul_add,←Nat.mul_assoc,←Nat.pow_add]
   by_cases hp:P (8*i+k)=true
   ·rw [if_pos hp,(hP k (by omega)).1 hp];omega
   ·rw [if_neg hp]
    have:y/ 2^k%2=0:=by
      have:=mt (hP k (by omega)).2 hp
      omega
    rw [this];omega
theorem ziw {P:Nat→Bool} {b:List UInt8} {n:Nat} (hP: ∀i k,i<n→k<8→(P (8*i+k)=true↔(b.getD i 0).toNat/ 2^k%2=1)): ∀i,i≤n→zcd P (8*i)=leN b i
  |0,_=>rfl
  |i+1,h=>by
   have hb:=zps (fun k hk=>hP i k (by omega) hk) 8 (Nat.le_refl 8)
   have hy:(b.getD i 0).toNat<2^8:=(b.getD i 0).toNat_lt
   rw [Nat.mod_eq_of_lt hy] at hb
   show zcd P (8*i+8)=leN b i+_
   rw [hb,ziw hP i (by omega)]
theorem z8s {s:List UInt8} {at' n:Nat} (hn:n≤16):
    ws (zpg s at' n)=leN ((s.drop at').take n) n+2^(8*n):=by
  rw [(zt8 s at' hn).1,ziw (b:=(s.drop at').take n) (n:=n) ?_ n (Nat.le_refl n)]
  intro i k hi hk
  have e:((s.drop at').take n).getD i 0=s.getD (at'+i) 0:=by
    rw [List.getD_eq_getElem?_getD,List.getElem?_take_of_lt hi,List.getElem?_drop,←List.getD_eq_getElem?_getD]
  unfold zci
  rw [e,decide_eq_true_iff,show (8*i+k)/ 8=i by omega,show (8*i+k)%8=k by omega]
  exact yfj _ hk
end Go.Sym.Pol

namespace Go.Sym.Pol
open Go.Sym.Lp
theorem zqm (x:UInt64) {k:Nat} (h:k<64):(x>>>UInt64.ofNat k).toNat=x.toNat/ 2^k:=by
  have hk:(UInt64.ofNat k).toNat=k:=by rw [UInt64.toNat_ofNat'];omega
  rw [UInt64.toNat_shiftRight,hk,Nat.mod_eq_of_lt h,Nat.shiftRight_eq_div_pow]
theorem ya0 (x y:UInt64) {k:Nat} (h:k<64) (hx:x.toNat<2^k) (hy:y.toNat*2^k<2^64):(x|||y<<<UInt64.ofNat k).toNat=x.toNat+2^k*y.toNat:=by
  have hk:(UInt64.ofNat k).toNat=k:=by rw [UInt64.toNat_ofNat'];omega
  rw [UInt64.toNat_or,UInt64.toNat_shiftLeft,hk,Nat.mod_eq_of_lt h,Nat.shiftLeft_eq,Nat.mod_eq_of_lt hy,Nat.or_comm,Nat.mul_comm,←Nat.two_pow_add_eq_or_of_lt hx,Nat.add_comm]
theorem z3i {a b c:UInt64} (hc:c.toNat≤1):ws (ycd [a,b,c])=w3 [a,b,c]∧ ∀l,l<5→(g64 (ycd [a,b,c]) l).toNat<67108864:=by
  have ha:=a.toNat_lt
  have hb:=b.toNat_lt
  have e0:(a&&&M26).toNat=a.toNat%67108864:=za1 a
  have e1:(a>>>(26:UInt64)&&&M26).toNat=a.toNat/ 67108864%67108864:=by rw [za1,zca]
  have f2:(b<<<(12:UInt64)).toNat=4096*(b.toNat%4503599627370496):=by
    rw [UInt64.toNat_shiftLeft,Nat.shiftLeft_eq];show b.toNat*4096%18446744073709551616=_;omega
  have g2:(a>>>(52:UInt64)).toNat=a.toNat/ 4503599627370496:=zqm a (k:=52) (by decide)
  have o2:(a>>>(52:UInt64)|||b<<<(12:UInt64)).toNat=a.toNat/ 4503599627370496+4096*(b.toNat%4503599627370496):=by
    have hlt:a.toNat/ 4503599627370496<2^12:=by show _<4096;omega
    rw [UInt64.toNat_or,f2,g2,Nat.or_comm]
    show 2^12*(b.toNat%4503599627370496)|||_=_
    rw [←Nat.two_pow_add_eq_or_of_lt hlt,Nat.add_comm]
  have e2:((a>>>(52:UInt64)|||b<<<(12:UInt64))&&&M26).toNat=(a.toNat/ 4503599627370496+4096*(b.toNat%4503599627370496))%67108864:=by rw [za1,o2]
  have g3:(b>>>(14:UInt64)).toNat=b.toNat/ 16384:=zqm b (k:=14) (by decide)
  have e3:(b>>>(14:UInt64)&&&M26).toNat=b.toNat/ 16384%67108864:=by rw [za1,g3]
  have g4:(b>>>(40:UInt64)).toNat=b.toNat/ 1099511627776:=zqm b (k:=40) (by decide)
  have e4:(b>>>(40:UInt64)|||c<<<(24:UInt64)).toNat=b.toNat/ 1099511627776+16777216*c.toNat:=by
    rw [show (c<<<(24:UInt64))=c<<<UInt64.ofNat 24 from rfl,ya0 _ c (k:=24) (by decide) (by rw [g4];show _<16777216;omega) (by show c.toNat*16777216<18446744073709551616;omega),g4]
  refine ⟨?_,?_⟩
  ·show (a&&&M26).toNat+67108864*(a>>>(26:UInt64)&&&M26).toNat+4503599627370496*((a>>>(52:UInt64)|||b<<<(12:UInt64))&&&M26).toNat+302231454903657293676544*(b>>>(14:UInt64)&&&M26).toNat+20282409603651670423947251286016*(b>>>(40:UInt64)|||c<<<(24:UInt64)).toNat=a.toNat+18446744073709551616*b.toNat+340282366920938463463374607431768211456*c.toNat
   rw [e0,e1,e2,e3,e4]
   omega
  ·intro l hl
   have:l=0∨l=1∨l=2∨l=3∨l=4:=by omega
   rcases this with rfl|rfl|rfl|rfl|rfl
   ·show (a&&&M26).toNat<_;omega
   ·show (a>>>(26:UInt64)&&&M26).toNat<_;omega
   ·show ((a>>>(52:UInt64)|||b<<<(12:UInt64))&&&M26).toNat<_;omega
   ·show (b>>>(14:UInt64)&&&M26).toNat<_;omega
   ·show (b>>>(40:UInt64)|||c<<<(24:UInt64)).toNat<_;omega
end Go.Sym.Pol

namespace Go.Sym.Pol
open Go.Sym.Lp
theorem zp2 {b:List UInt8} (hb:b.length≤16):
    ws (zdq b)=leN b b.length+2^(8*b.length)∧ ∀l,l<5→(g64 (zdq b) l).toNat<67108864:=by
  obtain ⟨hv,hl⟩:=zto b b.length hb
  obtain ⟨n,hn⟩: ∃n,n=b.length:=⟨_,rfl⟩
  rw [←hn] at hv hl hb ⊢
  have hl3:n/ 8<3:=by omega
  have hg:(g64 (zay b n) (n/ 8)).toNat<2^(8*(n%8)):=by
    have:=hl (n/ 8) hl3
    rwa [show min 64 (8*n-64*(n/ 8))=8*(n%8) by omega] at this
  have ho:=z5z (a:=g64 (zay b n) (n/ 8)) (k:=8*(n%8)) (by omega) hg
  have hs:=z5i (zdr b n) hl3 (g64 (zay b n) (n/ 8)|||UInt64.ofNat 1<<<UInt64.ofNat (8*(n%8)))
  rw [ho,Nat.mul_add,←Nat.pow_add,show 64*(n/ 8)+8*(n%8)=8*n by omega] at hs
  have hW:ldW b=(zay b n).set (n/ 8) (g64 (zay b n) (n/ 8)|||UInt64.ofNat 1<<<UInt64.ofNat (8*(n%8))):=by
    rw [hn];rfl
  have hw3:w3 (ldW b)=leN b n+2^(8*n):=by rw [hW,←hv];omega
  have hlen:(ldW b).length=3:=by rw [hW,List.length_set];exact zdr _ _
  obtain ⟨x,y,z,e⟩:=zpq hlen
  have hle:leN b n<2^(8*n)∨True:=Or.inr trivial
  have hz:z.toNat≤1:=by
    have h2:(g64 (zay b n) 2).toNat<2^(min 64 (8*n-64*2)):=hl 2 (by decide)
    rw [show min 64 (8*n-64*2)=0 by omega] at h2
    have h2':(g64 (zay b n) 2).toNat=0:=by omega
    have hz0:z=g64 (ldW b) 2:=by rw [e];rfl
    by_cases h16:n/ 8=2
    ·have hgs:g64 (ldW b) 2=g64 (zay b n) (n/ 8)|||UInt64.ofNat 1<<<UInt64.ofNat (8*(n%8)):=by
       rw [hW];unfold g64
       rw [h16,List.getD_eq_getElem?_getD,List.getElem?_set_self (by rw [zdr];decide)];rfl
     rw [hz0,hgs,ho,h16,h2',show 8*(n%8)=0 by omega]
     exact Nat.le_refl 1
    ·have hgs:g64 (ldW b) 2=g64 (zay b n) 2:=by
       rw [hW];unfold g64
       rw [List.getD_eq_getElem?_getD,List.getElem?_set_ne (by omega),←List.getD_eq_getElem?_getD]
     rw [hz0,hgs,h2']
     exact Nat.zero_le 1
  obtain ⟨q1,q2⟩:=z3i (a:=x) (b:=y) hz
  unfold zdq
  rw [e]
  rw [e] at hw3
  exact ⟨q1.trans hw3,q2⟩
end Go.Sym.Pol

namespace Go.Sym.Pol
open Go.Sym.Lp
theorem z3t (key s:List UInt8): ∀t,t≤(s.length+15)/ 16→
    ws (zbw (xx (zad key) 128) [0,0,0,0,0] s t)%pP=ws (zdu key s t)%pP∧
    (∀i,i<5→(g64 (zbw (xx (zad key) 128) [0,0,0,0,0] s t) i).toNat<134217728)∧(∀i,i<5→(g64 (zdu key s t) i).toNat<134217728)
  |0,_=>by
   have z: ∀i,i<5→(g64 [0,0,0,0,0] i).toNat<134217728:=by decide
   exact ⟨rfl,z,z⟩
  |t+1,h=>by
   obtain ⟨e,b1,b2⟩:=z3t key s t (by omega)
   have hR: ∀i,i<5→(g64 (xx (zad key) 128) i).toNat<67108864:=fun l hl=>Nat.lt_of_lt_of_le ((zj3 (zad key) 128 (by decide)).2 l hl) (Nat.pow_le_pow_right (n:=2) (by decide) (Nat.min_le_left 26 _))
   have hRl:=zbj (zad key) 128
   obtain ⟨n,hn⟩: ∃n,n=min 16 (s.length-16*t):=⟨_,rfl⟩
   have hbl:((s.drop (16*t)).take 16).length=n:=by rw [List.length_take,List.length_drop,hn]
   have hbe:(s.drop (16*t)).take n=(s.drop (16*t)).take 16:=by
     have h1:=List.take_take (i:=n) (j:=16) (l:=s.drop (16*t))
     rw [Nat.min_eq_left (by omega)] at h1
     rw [←h1]
     exact List.take_of_length_le (by rw [hbl];exact Nat.le_refl _)
   obtain ⟨v1,c1⟩:=zp2 (b:=(s.drop (16*t)).take 16) (by omega)
   obtain ⟨_,c2⟩:=zt8 s (16*t) (n:=n) (by omega)
   have v2:=z8s (s:=s) (at':=16*t) (n:=n) (by omega)
   rw [hbe] at v2
   rw [hbl,←v2] at v1
   have z5:([0,0,0,0,0]:List UInt64).length=5:=rfl
   have la:=zez (r:=xx (zad key) 128) z5 s t
   have lr:=zmw key s t
   have st:=z1u la lr hRl (zcj _) (zgt s (16*t) n) b1 b2 hR c1 c2 e v1
   obtain ⟨_,d1⟩:=zje la (zcj ((s.drop (16*t)).take 16)) b1 c1
   obtain ⟨_,d2⟩:=zje lr (zgt s (16*t) n) b2 c2
   have f1:=(zqr (zgx (zbw (xx (zad key) 128) [0,0,0,0,0] s t) (zdq ((s.drop (16*t)).take 16))) hRl d1 hR).2
   have f2:=(zog (zgx (zdu key s t) (zpg s (16*t) n)) hRl d2 hR).2
   rw [←zq2 lr (zgt s (16*t) n)] at f2
   rw [hn] at st f2
   exact ⟨st,f1,f2⟩
end Go.Sym.Pol

namespace Go.Sym.Pol
open Go.Sym.Lp
theorem z6u {x y:List UInt64} (hx:x.length=5) (hy:y.length=5) (bx: ∀i,i<5→(g64 x i).toNat<67108864) (bz: ∀i,i<5→(g64 y i).toNat<67108864) (e:ws x=ws y):x=y:=by
  obtain ⟨a,b,c,d,f,rfl⟩:=zd5 hx
  obtain ⟨r,s,t,u,v,rfl⟩:=zd5 hy
  have ha:a.toNat<67108864:=bx 0 (by decide)
  have hb:b.toNat<67108864:=bx 1 (by decide)
  have hc:c.toNat<67108864:=bx 2 (by decide)
  have hd:d.toNat<67108864:=bx 3 (by decide)
  have hf:f.toNat<67108864:=bx 4 (by decide)
  have hr:r.toNat<67108864:=bz 0 (by decide)
  have hs:s.toNat<67108864:=bz 1 (by decide)
  have ht:t.toNat<67108864:=bz 2 (by decide)
  have hu:u.toNat<67108864:=bz 3 (by decide)
  have hv:v.toNat<67108864:=bz 4 (by decide)
  simp only [ws] at e
  have e0:a=r:=UInt64.toNat_inj.1 (by omega)
  have e1:b=s:=UInt64.toNat_inj.1 (by omega)
  have e2:c=t:=UInt64.toNat_inj.1 (by omega)
  have e3:d=u:=UInt64.toNat_inj.1 (by omega)
  have e4:f=v:=UInt64.toNat_inj.1 (by omega)
  rw [e0,e1,e2,e3,e4]
end Go.Sym.Pol

namespace Go.Sym.Pol
open Go.Sym.Lp
theorem yck {key:List UInt8} (h:16≤key.length): ∃a0 a1 a2 a3 a4 a5 a6 a7 a8 a9 b0 b1 b2 b3 b4 b5 t,key=a0 ::a1 ::a2 ::a3 ::a4 ::a5 ::a6 ::a7 ::a8 ::a9 ::b0 ::b1 ::b2 ::b3 ::b4 ::b5 ::t:=by
  match key,h with
  |a0 ::a1 ::a2 ::a3 ::a4 ::a5 ::a6 ::a7 ::a8 ::a9 ::b0 ::b1 ::b2 ::b3 ::b4 ::b5 ::t,_=>exact ⟨a0,a1,a2,a3,a4,a5,a6,a7,a8,a9,b0,b1,b2,b3,b4,b5,t,rfl⟩
theorem zd1 (a:UInt8):a&&&255=a:=by
  apply UInt8.toNat_inj.1
  rw [UInt8.toNat_and]
  show a.toNat&&&(2^8-1)=_
  rw [Nat.and_two_pow_sub_one_eq_mod]
  exact Nat.mod_eq_of_lt a.toNat_lt
theorem yb6 {key:List UInt8} (h:16≤key.length): ∀i,i<16→(cC (cA (key.take 16) 4) 3).getD i 0=key.getD i 0&&&zu6.getD i 0:=by
  obtain ⟨a0,a1,a2,a3,a4,a5,a6,a7,a8,a9,b0,b1,b2,b3,b4,b5,t,rfl⟩:=yck h
  have e:cC (cA (List.take 16 (a0 ::a1 ::a2 ::a3 ::a4 ::a5 ::a6 ::a7 ::a8 ::a9 ::b0 ::b1 ::b2 ::b3 ::b4 ::b5 ::t)) 4) 3= [a0,a1,a2,a3&&&15,a4&&&252,a5,a6,a7&&&15,a8&&&252,a9,b0,b1&&&15,b2&&&252,b3,b4,b5&&&15]:=rfl
  rw [e]
  intro i hi
  have hc:i=0∨i=1∨i=2∨i=3∨i=4∨i=5∨i=6∨i=7∨i=8∨i=9∨i=10∨i=11∨i=12∨i=13∨i=14∨i=15:=by omega
  rcases hc with rfl|rfl|rfl|rfl|rfl|rfl|rfl|rfl|rfl|rfl|rfl|rfl|rfl|rfl|rfl|rfl
  ·exact (zd1 _).symm
  ·exact (zd1 _).symm
  ·exact (zd1 _).symm
  ·rfl
  ·rfl
  ·exact (zd1 _).symm
  ·exact (zd1 _).symm
  ·rfl
  ·rfl
  ·exact (zd1 _).symm
  ·exact (zd1 _).symm
  ·rfl
  ·rfl
  ·exact (zd1 _).symm
  ·exact (zd1 _).symm
  ·rfl
theorem yen {x:List UInt64} (h:x.length=5) {N:Nat} (hv:ws x=N+340282366920938463463374607431768211456) (hN:N<340282366920938463463374607431768211456) (hb: ∀l,l<5→(g64 x l).toNat<67108864):
    ws (x.set 4 (g64 x 4&&&UInt64.ofNat 16777215))=N∧ ∀l,l<5→(g64 (x.set 4 (g64 x 4&&&UInt64.ofNat 16777215)) l).toNat<67108864:=by
  obtain ⟨a,b,c,d,e,rfl⟩:=zd5 h
  have ha:a.toNat<67108864:=hb 0 (by decide)
  have hb':b.toNat<67108864:=hb 1 (by decide)
  have hc:c.toNat<67108864:=hb 2 (by decide)
  have hd:d.toNat<67108864:=hb 3 (by decide)
  have he:e.toNat<67108864:=hb 4 (by decide)
  have hm:(e&&&UInt64.ofNat 16777215).toNat=e.toNat%16777216:=by
    rw [UInt64.toNat_and]
    show e.toNat&&&(2^24-1)=_
    rw [Nat.and_two_pow_sub_one_eq_mod]
  simp only [ws] at hv
  have es: [a,b,c,d,e].set 4 (g64 [a,b,c,d,e] 4&&&UInt64.ofNat 16777215)= [a,b,c,d,e&&&UInt64.ofNat 16777215]:=rfl
  rw [es]
  generalize e&&&UInt64.ofNat 16777215=f at*
  refine ⟨?_,?_⟩
  ·simp only [ws]
   omega
  ·intro i hi
   have:i=0∨i=1∨i=2∨i=3∨i=4:=by omega
   rcases this with rfl|rfl|rfl|rfl|rfl
   ·exact ha
   ·exact hb'
   ·exact hc
   ·exact hd
   ·show f.toNat<_;omega
theorem z7c {key:List UInt8} (h:16≤key.length):rOf key=xx (zad key) 128:=by
  have hl:(cC (cA (key.take 16) 4) 3).length=16:=by rw [zwt,zx2,List.length_take];omega
  have hm:=yb6 h
  unfold rOf
  obtain ⟨b,hb⟩: ∃b,b=cC (cA (key.take 16) 4) 3:=⟨_,rfl⟩
  rw [←hb] at hl hm ⊢
  obtain ⟨v,bd⟩:=zp2 (b:=b) (by omega)
  rw [hl] at v
  have hbits:zcd (zad key) (8*16)=leN b 16:=ziw (b:=b) (n:=16) (by
    intro i k hi hk
    unfold zad
    rw [decide_eq_true_iff,show (8*i+k)/ 8=i by omega,show (8*i+k)%8=k by omega,hm i hi]
    exact yfj _ hk) 16 (Nat.le_refl _)
  have hlt:=zuw (zad key) (8*16)
  rw [hbits] at hlt
  obtain ⟨v2,bd2⟩:=yen (zcj b) (N:=leN b 16) v hlt bd
  obtain ⟨v3,bd3⟩:=zj3 (zad key) 128 (by decide)
  refine z6u (by rw [List.length_set];exact zcj b) (zbj _ _) bd2 (fun l hl=>Nat.lt_of_lt_of_le (bd3 l hl) (Nat.pow_le_pow_right (n:=2) (by decide) (Nat.min_le_left 26 _))) ?_
  rw [v2,v3]
  exact hbits.symm
end Go.Sym.Pol

namespace Go.Sym.Pol
open Go.Sym.Lp
theorem zpu (r x:List UInt64) {A:List UInt8} (B:List UInt8): ∀t,16*t≤A.length→zbw r x (A++B) t=zbw r x A t
  |0,_=>rfl
  |t+1,h=>by
   simp only [zbw]
   rw [zpu r x B t (by omega)]
   congr 1
   rw [List.drop_append_of_le_length (by omega),List.take_append_of_le_length (by rw [List.length_drop];omega)]
theorem zu2 (r x:List UInt64) {A:List UInt8} (B:List UInt8) {n:Nat} (hA:A.length=16*n): ∀t,zbw r x (A++B) (n+t)=zbw r (zbw r x A n) B t
  |0=>zpu r x B n (by omega)
  |t+1=>by
   show zs5 r (zbw r x (A++B) (n+t)) (((A++B).drop (16*(n+t))).take 16)=zs5 r (zbw r (zbw r x A n) B t) ((B.drop (16*t)).take 16)
   rw [zu2 r x B hA t]
   congr 2
   rw [show 16*(n+t)=A.length+16*t by omega,List.drop_append]
   have h1:List.drop (A.length+16*t) A= []:=List.drop_eq_nil_of_le (by omega)
   rw [h1,List.nil_append]
   congr 1
   omega
theorem zuc (r x:List UInt64) {A:List UInt8} (B:List UInt8) {n:Nat} (hA:A.length=16*n):zcl r (zcl r x A) B=zcl r x (A++B):=by
  unfold zcl
  rw [List.length_append,show (A.length+15)/ 16=n by omega,show (A.length+B.length+15)/ 16=n+(B.length+15)/ 16 by omega]
  exact (zu2 r x B hA _).symm
def yc5 (aad b:List UInt8):List UInt8:=aad++fillB aad.length++(b++fillB b.length)++zb1 aad.length++zb1 b.length
theorem z0h (r:List UInt64) (aad b:List UInt8):zqv r aad b=zcl r [0,0,0,0,0] (yc5 aad b):=by
  unfold zqv
  have hf:=zbv aad.length
  have h1:(aad++fillB aad.length).length=16*((aad.length+15)/ 16):=by rw [List.length_append,hf];omega
  have h2:(b.take (b.length-b.length%16)).length=16*(b.length/ 16):=by rw [List.length_take];omega
  rw [zuc r _ _ h1,zuc r _ _ (n:=(aad.length+15)/ 16+b.length/ 16) (by rw [List.length_append,h1,h2];omega)]
  congr 1
  unfold yc5
  simp only [List.append_assoc]
  rw [←List.append_assoc (b.take _) (b.drop _),List.take_append_drop]
end Go.Sym.Pol

namespace Go.Sym.Pol
open Go.Sym.Lp
abbrev Sm (x:List UInt64):Prop:= ∀i,i<5→(g64 x i).toNat<67108864
theorem yag {x:List UInt64} (h:x.length=5) (hb:Sm x):ws x<1361129467683753853853498429727072845824:=by
  obtain ⟨a,b,c,d,e,rfl⟩:=zd5 h
  have ha:a.toNat<67108864:=hb 0 (by decide)
  have hb':b.toNat<67108864:=hb 1 (by decide)
  have hc:c.toNat<67108864:=hb 2 (by decide)
  have hd:d.toNat<67108864:=hb 3 (by decide)
  have he:e.toNat<67108864:=hb 4 (by decide)
  simp only [ws]
  omega
theorem z1f {a b c d e:UInt64} (hb:Sm [a,b,c,d,e]) {A B C D E:UInt64} (hA:A=a+5) (hB:B=b+A>>>(26:UInt64)) (hC:C=c+B>>>(26:UInt64)) (hD:D=d+C>>>(26:UInt64)) (hE:E=e+D>>>(26:UInt64)):
    ws [A&&&M26,B&&&M26,C&&&M26,D&&&M26,E&&&M26]+1361129467683753853853498429727072845824*(E>>>(26:UInt64)).toNat=ws [a,b,c,d,e]+5∧Sm [A&&&M26,B&&&M26,C&&&M26,D&&&M26,E&&&M26]:=by
  have ha:a.toNat<67108864:=hb 0 (by decide)
  have hb':b.toNat<67108864:=hb 1 (by decide)
  have hc:c.toNat<67108864:=hb 2 (by decide)
  have hd:d.toNat<67108864:=hb 3 (by decide)
  have he:e.toNat<67108864:=hb 4 (by decide)
  have f5:(5:UInt64).toNat=5:=rfl
  have e0:A.toNat=a.toNat+5:=by rw [hA,xn (by omega),f5]
  have s0:=zca A
  have e1:B.toNat=b.toNat+A.toNat/ 67108864:=by rw [hB,xn (by omega),s0]
  have s1:=zca B
  have e2:C.toNat=c.toNat+B.toNat/ 67108864:=by rw [hC,xn (by omega),s1]
  have s2:=zca C
  have e3:D.toNat=d.toNat+C.toNat/ 67108864:=by rw [hD,xn (by omega),s2]
  have s3:=zca D
  have e4:E.toNat=e.toNat+D.toNat/ 67108864:=by rw [hE,xn (by omega),s3]
  have s4:=zca E
  have n0:=za1 A
  have n1:=za1 B
  have n2:=za1 C
  have n3:=za1 D
  have n4:=za1 E
  refine ⟨?_,?_⟩
  ·simp only [ws]
   rw [n0,n1,n2,n3,n4,s4]
   omega
  ·intro i hi
   have:i=0∨i=1∨i=2∨i=3∨i=4:=by omega
   rcases this with rfl|rfl|rfl|rfl|rfl
   ·show (A&&&M26).toNat<_;omega
   ·show (B&&&M26).toNat<_;omega
   ·show (C&&&M26).toNat<_;omega
   ·show (D&&&M26).toNat<_;omega
   ·show (E&&&M26).toNat<_;omega
def zi4 (y:List UInt64):List UInt64:=if 0<(g64 (za8 y 4) 4>>>(26:UInt64)).toNat then (za8 y 4).set 4 (g64 (za8 y 4) 4&&&M26) else y
theorem z13 (x:List UInt64):zaw x=zi4 (car (car x)):=rfl
theorem z68 (a b c d e:UInt64):za8 [a,b,c,d,e] 4=
    (let A:=a+5;let B:=b+A>>>(26:UInt64);let C:=c+B>>>(26:UInt64);let D:=d+C>>>(26:UInt64);let E:=e+D>>>(26:UInt64)
     [A&&&M26,B&&&M26,C&&&M26,D&&&M26,E]):=rfl
theorem znt {y:List UInt64} (h:y.length=5) (hb:Sm y):ws (zi4 y)=ws y%pP∧Sm (zi4 y)∧(zi4 y).length=5:=by
  have hlt:=yag h hb
  obtain ⟨a,b,c,d,e,rfl⟩:=zd5 h
  unfold zi4
  rw [z68]
  simp only
  obtain ⟨A,hA⟩: ∃A,A=a+5:=⟨_,rfl⟩
  rw [←hA]
  obtain ⟨B,hB⟩: ∃B,B=b+A>>>(26:UInt64):=⟨_,rfl⟩
  rw [←hB]
  obtain ⟨C,hC⟩: ∃C,C=c+B>>>(26:UInt64):=⟨_,rfl⟩
  rw [←hC]
  obtain ⟨D,hD⟩: ∃D,D=d+C>>>(26:UInt64):=⟨_,rfl⟩
  rw [←hD]
  obtain ⟨E,hE⟩: ∃E,E=e+D>>>(26:UInt64):=⟨_,rfl⟩
  rw [←hE]
  obtain ⟨v,s⟩:=z1f hb hA hB hC hD hE
  have h5:=yag (x:= [A&&&M26,B&&&M26,C&&&M26,D&&&M26,E&&&M26]) rfl s
  have hg:g64 [A&&&M26,B&&&M26,C&&&M26,D&&&M26,E] 4=E:=rfl
  rw [hg]
  unfold pP
  split
  ·rename_i h0
   have e1: [A&&&M26,B&&&M26,C&&&M26,D&&&M26,E].set 4 (E&&&M26)= [A&&&M26,B&&&M26,C&&&M26,D&&&M26,E&&&M26]:=rfl
   rw [e1]
   refine ⟨?_,s,rfl⟩
   omega
  ·rename_i h0
   refine ⟨?_,hb,rfl⟩
   omega
theorem zxb {x:List UInt64} (h:x.length=5):zg3 x=zi4 (rcd (rcd x)):=by
  unfold zg3 zi4
  have hl:(rcd (rcd x)).length=5:=by rw [zfc,zfc,h]
  obtain ⟨a,b,c,d,e,he⟩:=zd5 hl
  rw [he]
  have e1:zcn ([a,b,c,d,e].set 0 (g64 [a,b,c,d,e] 0+5)) 5=
    (let A:=a+5+0;let B:=b+A>>>(26:UInt64);let C:=c+B>>>(26:UInt64);let D:=d+C>>>(26:UInt64);let E:=e+D>>>(26:UInt64)
     ([A&&&M26,B&&&M26,C&&&M26,D&&&M26,E&&&M26],E>>>(26:UInt64))):=rfl
  have z:a+5+0=a+5:=UInt64.add_zero _
  rw [z] at e1
  rw [e1,z68]
  rfl
theorem z2z {x:List UInt64} (h:x.length=5) (h0:(g64 x 0).toNat<67108964) (hb: ∀i,0<i→i<5→(g64 x i).toNat<67108864):Sm (rcd x):=by
  obtain ⟨a,b,c,d,e,rfl⟩:=zd5 h
  have ha:a.toNat<67108964:=h0
  have hb':b.toNat<67108864:=hb 1 (by decide) (by decide)
  have hc:c.toNat<67108864:=hb 2 (by decide) (by decide)
  have hd:d.toNat<67108864:=hb 3 (by decide) (by decide)
  have he:e.toNat<67108864:=hb 4 (by decide) (by decide)
  rw [z47]
  simp only
  have z:a+0=a:=UInt64.add_zero _
  rw [z]
  have s0:=zca a
  have n0:=za1 a
  generalize a>>>(26:UInt64)=c0 at*
  generalize a&&&M26=a0 at*
  have e1:(b+c0).toNat=b.toNat+c0.toNat:=xn (by omega)
  generalize b+c0=b1 at*
  have s1:=zca b1
  have n1:=za1 b1
  generalize b1>>>(26:UInt64)=c1 at*
  have e2:(c+c1).toNat=c.toNat+c1.toNat:=xn (by omega)
  generalize c+c1=c' at*
  have s2:=zca c'
  have n2:=za1 c'
  generalize c'>>>(26:UInt64)=c2 at*
  have e3:(d+c2).toNat=d.toNat+c2.toNat:=xn (by omega)
  generalize d+c2=d' at*
  have s3:=zca d'
  have n3:=za1 d'
  generalize d'>>>(26:UInt64)=c3 at*
  have e4:(e+c3).toNat=e.toNat+c3.toNat:=xn (by omega)
  generalize e+c3=e' at*
  have s4:=zca e'
  have n4:=za1 e'
  generalize e'>>>(26:UInt64)=c4 at*
  have m5:(5*c4).toNat=5*c4.toNat:=z1j (by show 5*c4.toNat<_;omega)
  have e5:(a0+5*c4).toNat=a0.toNat+5*c4.toNat:=by rw [xn (by omega),m5]
  intro i hi
  have:i=0∨i=1∨i=2∨i=3∨i=4:=by omega
  rcases this with rfl|rfl|rfl|rfl|rfl
  ·show (a0+5*c4).toNat<_;omega
  ·show (b1&&&M26).toNat<_;omega
  ·show (c'&&&M26).toNat<_;omega
  ·show (d'&&&M26).toNat<_;omega
  ·show (e'&&&M26).toNat<_;omega
theorem z06 {x:List UInt64} (h:x.length=5) (hb: ∀i,i<5→(g64 x i).toNat<134217728):ws (zaw x)=ws x%pP∧Sm (zaw x)∧(zaw x).length=5:=by
  obtain ⟨k1,v1,l1,b1,t1⟩:=zy9 h (fun i hi=>by have:=hb i hi;omega)
  rw [z13]
  have hc1: ∃k,ws (car x)=ws (car (car x))+k*pP∧(car (car x)).length=5∧Sm (car (car x)):=by
    refine z5m l1 ?_ (b1 1 (by decide))
    intro i hi hi1
    obtain ⟨a,b,c,d,e,rfl⟩:=zd5 h
    rw [zxc]
    have:i=0∨i=2∨i=3∨i=4:=by omega
    rcases this with rfl|rfl|rfl|rfl
    ·exact (za1 _).symm ▸ Nat.mod_lt _ (by decide)
    ·exact (za1 _).symm ▸ Nat.mod_lt _ (by decide)
    ·exact (za1 _).symm ▸ Nat.mod_lt _ (by decide)
    ·exact (za1 _).symm ▸ Nat.mod_lt _ (by decide)
  obtain ⟨k2,v2,l2,b2⟩:=hc1
  obtain ⟨v3,s3,l3⟩:=znt l2 b2
  refine ⟨?_,s3,l3⟩
  rw [v3,v1,v2,Nat.add_mul_mod_self_right,Nat.add_mul_mod_self_right]
theorem zw3 {x:List UInt64} (h:x.length=5) (hb: ∀i,i<5→(g64 x i).toNat<134217728):ws (zg3 x)=ws x%pP∧Sm (zg3 x)∧(zg3 x).length=5:=by
  obtain ⟨k1,v1,l1,a1,b1⟩:=zl6 h (B:=134217728) (by decide) (fun i hi=>Nat.le_of_lt (hb i hi))
  obtain ⟨k2,v2,l2,_,_⟩:=zl6 l1 (B:=134217728) (by decide) (fun i hi=>by
    by_cases h0:i=0
    ·rw [h0];omega
    ·have:=b1 i (by omega) hi;omega)
  have s2:=z2z l1 (by omega) b1
  rw [zxb h]
  obtain ⟨v3,s3,l3⟩:=znt l2 s2
  refine ⟨?_,s3,l3⟩
  rw [v3,v1,v2,Nat.add_mul_mod_self_right,Nat.add_mul_mod_self_right]
theorem zop {lo x up l k N:Nat} (hk:k<26) (hlo:lo<2^(26*l)) (hN:N=lo+2^(26*l)*(x+67108864*up)):N/ 2^(26*l+k)%2=x/ 2^k%2:=by
  have h1:N/ 2^(26*l)=x+67108864*up:=by
    rw [hN,Nat.add_mul_div_left _ _ (Nat.pow_pos (by decide)),Nat.div_eq_of_lt hlo,Nat.zero_add]
  have h2:67108864=2^k*(2*2^(25-k)):=by
    rw [show 2*2^(25-k)=2^(25-k+1) by rw [Nat.pow_succ,Nat.mul_comm],←Nat.pow_add,show k+(25-k+1)=26 by omega]
  rw [Nat.pow_add,←Nat.div_div_eq_div_mul,h1,h2,Nat.mul_assoc,Nat.add_mul_div_left _ _ (Nat.pow_pos (by decide)),Nat.mul_assoc,Nat.add_mul_mod_self_left]
theorem z5y {x:List UInt64} (h:x.length=5) (hb:Sm x) {j:Nat} (hj:j<130):zge x j=ws x/ 2^j%2:=by
  obtain ⟨a,b,c,d,e,rfl⟩:=zd5 h
  have ha:a.toNat<67108864:=hb 0 (by decide)
  have hb':b.toNat<67108864:=hb 1 (by decide)
  have hc:c.toNat<67108864:=hb 2 (by decide)
  have hd:d.toNat<67108864:=hb 3 (by decide)
  have he:e.toNat<67108864:=hb 4 (by decide)
  unfold zge
  have hk:j%26<26:=Nat.mod_lt _ (by decide)
  have hjj:j=26*(j/ 26)+j%26:=(Nat.div_add_mod j 26).symm
  generalize j%26=k at*
  generalize j/ 26=l at*
  subst hjj
  have:l=0∨l=1∨l=2∨l=3∨l=4:=by omega
  symm
  rcases this with rfl|rfl|rfl|rfl|rfl
  ·exact zop (lo:=0) (x:=a.toNat) (up:=b.toNat+67108864*c.toNat+4503599627370496*d.toNat+302231454903657293676544*e.toNat) hk (by decide) (by simp only [ws];omega)
  ·exact zop (lo:=a.toNat) (x:=b.toNat) (up:=c.toNat+67108864*d.toNat+4503599627370496*e.toNat) hk (by omega) (by simp only [ws];omega)
  ·exact zop (lo:=a.toNat+67108864*b.toNat) (x:=c.toNat) (up:=d.toNat+67108864*e.toNat) hk (by omega) (by simp only [ws];omega)
  ·exact zop (lo:=a.toNat+67108864*b.toNat+4503599627370496*c.toNat) (x:=d.toNat) (up:=e.toNat) hk (by omega) (by simp only [ws];omega)
  ·exact zop (lo:=a.toNat+67108864*b.toNat+4503599627370496*c.toNat+302231454903657293676544*d.toNat) (x:=e.toNat) (up:=0) hk (by omega) (by simp only [ws];omega)
theorem zyt {x:List UInt64} (h:x.length=5) (hb:Sm x) {i:Nat} (hi:i<16): ∀k,k≤8→rbv x i k=ws x/ 2^(8*i)%2^k
  |0,_=>by rw [Nat.pow_zero,Nat.mod_one];rfl
  |k+1,hk=>by
   rw [zt3,rbv,zyt h hb hi k (by omega),z5y h hb (by omega),Nat.pow_add,Nat.div_div_eq_div_mul,Nat.mul_comm (2^k)]
theorem z94 {x:List UInt64} (h:x.length=5) (hb:Sm x):(zl0 x).toNat=ws x%18446744073709551616∧(zfu x).toNat=ws x/ 18446744073709551616%18446744073709551616:=by
  obtain ⟨a,b,c,d,e,rfl⟩:=zd5 h
  have ha:a.toNat<67108864:=hb 0 (by decide)
  have hb':b.toNat<67108864:=hb 1 (by decide)
  have hc:c.toNat<67108864:=hb 2 (by decide)
  have hd:d.toNat<67108864:=hb 3 (by decide)
  have he:e.toNat<67108864:=hb 4 (by decide)
  have orp: ∀(p q:UInt64) (k m:Nat),p.toNat<2^k→q.toNat=2^k*m→(p|||q).toNat=p.toNat+2^k*m:=by
    intro p q k m hp hq
    rw [UInt64.toNat_or,hq,Nat.or_comm,←Nat.two_pow_add_eq_or_of_lt hp,Nat.add_comm]
  have f1:(b<<<(26:UInt64)).toNat=67108864*b.toNat:=by
    rw [UInt64.toNat_shiftLeft,Nat.shiftLeft_eq];show b.toNat*67108864%18446744073709551616=_;omega
  have f2:(c<<<(52:UInt64)).toNat=4503599627370496*(c.toNat%4096):=by
    rw [UInt64.toNat_shiftLeft,Nat.shiftLeft_eq];show c.toNat*4503599627370496%18446744073709551616=_;omega
  have f3:(c>>>(12:UInt64)).toNat=c.toNat/ 4096:=zqm c (k:=12) (by decide)
  have f4:(d<<<(14:UInt64)).toNat=16384*d.toNat:=by
    rw [UInt64.toNat_shiftLeft,Nat.shiftLeft_eq];show d.toNat*16384%18446744073709551616=_;omega
  have f5:(e<<<(40:UInt64)).toNat=1099511627776*(e.toNat%16777216):=by
    rw [UInt64.toNat_shiftLeft,Nat.shiftLeft_eq];show e.toNat*1099511627776%18446744073709551616=_;omega
  have o1:(a|||b<<<(26:UInt64)).toNat=a.toNat+67108864*b.toNat:=orp _ _ 26 _ ha f1
  have o2:(a|||b<<<(26:UInt64)|||c<<<(52:UInt64)).toNat=a.toNat+67108864*b.toNat+4503599627370496*(c.toNat%4096):=by
    rw [orp _ _ 52 _ (by rw [o1];omega) f2,o1]
  have o3:(c>>>(12:UInt64)|||d<<<(14:UInt64)).toNat=c.toNat/ 4096+16384*d.toNat:=by
    rw [orp _ _ 14 _ (by rw [f3];omega) f4,f3]
  have o4:(c>>>(12:UInt64)|||d<<<(14:UInt64)|||e<<<(40:UInt64)).toNat=c.toNat/ 4096+16384*d.toNat+1099511627776*(e.toNat%16777216):=by
    rw [orp _ _ 40 _ (by rw [o3];omega) f5,o3]
  refine ⟨?_,?_⟩
  ·show (a|||b<<<(26:UInt64)|||c<<<(52:UInt64)).toNat=_
   rw [o2]
   simp only [ws]
   omega
  ·show (c>>>(12:UInt64)|||d<<<(14:UInt64)|||e<<<(40:UInt64)).toNat=_
   rw [o4]
   simp only [ws]
   omega
theorem z97 {x:List UInt64} (h:x.length=5) (hb:Sm x) {i:Nat} (hi:i<16):((if 8≤i then zfu x else zl0 x)>>>UInt64.ofNat (8*(i%8))&&&255).toNat=ws x/ 2^(8*i)%256:=by
  obtain ⟨hl,hh⟩:=z94 h hb
  have ha: ∀y:UInt64,(y&&&255).toNat=y.toNat%256:=by
    intro y
    rw [UInt64.toNat_and]
    show y.toNat&&&(2^8-1)=_
    rw [Nat.and_two_pow_sub_one_eq_mod]
  rw [ha,zqm _ (by omega)]
  generalize ws x=N at*
  have cut: ∀(M k:Nat),k≤56→M%18446744073709551616/ 2^k%256=M/ 2^k%256:=by
    intro M k hk
    have e:18446744073709551616=2^k*(256*2^(56-k)):=by
      rw [show 256*2^(56-k)=2^(8+(56-k)) by rw [Nat.pow_add],←Nat.pow_add,show k+(8+(56-k))=64 by omega]
    rw [e,Nat.mod_mul_right_div_self,Nat.mod_mul_right_mod]
  split
  ·rename_i h8
   rw [hh,cut _ _ (by omega),show 18446744073709551616=2^64 from rfl,Nat.div_div_eq_div_mul,←Nat.pow_add,show 64+8*(i%8)=8*i by omega]
  ·rename_i h8
   rw [hl,cut _ _ (by omega),show 8*(i%8)=8*i by omega]
theorem zux {x:List UInt64} (h:x.length=5) (hb:Sm x) (key:List UInt8): ∀i,i≤16→
    (zbt (zl0 x) (zfu x) key i).1=(rts x (key.drop 16) i).1∧(zbt (zl0 x) (zfu x) key i).2.toNat=(rts x (key.drop 16) i).2
  |0,_=>⟨rfl,rfl⟩
  |i+1,hi=>by
   obtain ⟨e1,e2⟩:=zux h hb key i (by omega)
   have hle:=ztj x (key.drop 16) i
   have hby:=z97 h hb (i:=i) (by omega)
   have hr:=zyt h hb (i:=i) (by omega) 8 (Nat.le_refl _)
   have hk:(key.drop 16).getD i 0=key.getD (16+i) 0:=by
     rw [List.getD_eq_getElem?_getD,List.getElem?_drop,←List.getD_eq_getElem?_getD]
   have hkl:(key.getD (16+i) 0).toUInt64.toNat=(key.getD (16+i) 0).toNat:=rfl
   have hk2:=(key.getD (16+i) 0).toNat_lt
   simp only [zbt,rts]
   rw [hk]
   generalize (if 8≤i then zfu x else zl0 x)>>>UInt64.ofNat (8*(i%8))&&&255=by1 at*
   have hb2:by1.toNat<256:=by omega
   have s1:(by1+(key.getD (16+i) 0).toUInt64).toNat=by1.toNat+(key.getD (16+i) 0).toNat:=by rw [xn (by omega),hkl]
   have s2:((zbt (zl0 x) (zfu x) key i).2+(by1+(key.getD (16+i) 0).toUInt64)).toNat=(rts x (key.drop 16) i).2+rbv x i 8+(key.getD (16+i) 0).toNat:=by
     rw [xn (by omega),s1,e2,hby,hr]
     show _+(_%256+_)=_+_%256+_
     omega
   refine ⟨?_,?_⟩
   ·rw [e1]
    congr 1
    apply UInt8.toNat_inj.1
    rw [UInt64.toNat_toUInt8,s2,UInt8.toNat_ofNat']
   ·rw [show (8:UInt64)=UInt64.ofNat 8 from rfl,zqm _ (by decide),s2]
theorem z0y {key:List UInt8} (h:16≤key.length) (s:List UInt8):zf3 (zcl (rOf key) [0,0,0,0,0] s) key=zii key s:=by
  rw [z7c h]
  unfold zcl zii zpn zf3
  obtain ⟨e,b1,b2⟩:=z3t key s ((s.length+15)/ 16) (Nat.le_refl _)
  have z5:([0,0,0,0,0]:List UInt64).length=5:=rfl
  have l1:=zez (r:=xx (zad key) 128) z5 s ((s.length+15)/ 16)
  have l2:=zmw key s ((s.length+15)/ 16)
  obtain ⟨v1,s1,q1⟩:=z06 l1 b1
  obtain ⟨v2,s2,q2⟩:=zw3 l2 b2
  have hw:=z6u q1 q2 s1 s2 (by rw [v1,v2,e])
  rw [←hw]
  exact (zux q1 s1 key 16 (Nat.le_refl _)).1
theorem z4i {key:List UInt8} (h:16≤key.length) (aad b:List UInt8):zf3 (zqv (rOf key) aad b) key=zii key (yc5 aad b):=by
  rw [z0h]
  exact z0y h _
end Go.Sym.Pol

namespace Go.Sym.Z
open Go Go.Proofs.Tryz Go.Sym.Lp Go.Sym.Gcm Go.Sym.Aes Go.Sym.Pol Go.Sym.Cha
set_option maxRecDepth 100000
def yg6:List (Nat×List PStep):= []
def yhy:List (Nat×List PStep):= []
theorem zs4 (key nonce aad b:List UInt8):zfs key nonce aad b=yt key nonce aad b:=by
  unfold zfs yt
  have hl:((blk key nonce 0).take 32).length=32:=by rw [List.length_take,zfm];rfl
  exact (z4i (by omega) aad b).symm
theorem zpj (key nonce aad s:List UInt8):zkv key nonce aad s=zav key nonce aad s:=by
  unfold zkv zav
  rw [zs4]
attribute [local irreducible] zav yt zg4 zg5 ze1 xl zkv zfs
theorem z2p: ∀args hp K,zwu args hp K→zj6 args hp K:=by
  intro args hp K h
  unfold zwu at h
  unfold zj6
  split at h
  ·obtain ⟨h0,h⟩:=zl h
   try dsimp only
   rw [if_pos h0,zpj];exact h
  ·exact h.elim
theorem z0u:zm prog 55 zwu:=zsh z6m z2p
theorem z1g:zm prog 56 zv4:=zsh z62 z8a
theorem znp:zm prog 53 zkw:=by
  refine zk yz zg rfl func53 rfl call53 (D:=yg6) ?_ ?_
  ·intro args hp K h
   unfold zkw at h
   split at h
   ·exact Nat.le_of_ble_eq_true rfl
   ·exact h.elim
  ·intro args hp K h
   unfold zkw at h
   split at h
   ·rename_i w
    obtain ⟨ht,hn⟩:=zy h
    by_cases h1:w=4865
    ·have h:=ht (decide_eq_true h1)
     refine za ?_
     exact ze [] h
    ·have h:=hn (decide_eq_false h1)
     obtain ⟨ht,hn⟩:=zy h
     by_cases h2:w=4866
     ·have h:=ht (decide_eq_true h2)
      refine za ?_
      exact ze [] h
     ·have h:=hn (decide_eq_false h2)
      obtain ⟨ht,hn⟩:=zy h
      by_cases h3:w=4867
      ·have h:=ht (decide_eq_true h3)
       refine za ?_
       exact ze [] h
      ·have h:=hn (decide_eq_false h3)
       refine za ?_
       exact ze [] h
   ·exact h.elim
set_option maxHeartbeats 4000000 in
theorem z4h:zm prog 27 zrz:=by
  refine zk yz (zc znp (zc z0u (zc z1g zg))) rfl func27 rfl call27 (D:=yhy) ?_ ?_
  ·intro args hp K h
   unfold zrz at h
   split at h
   ·exact Nat.le_of_ble_eq_true rfl
   ·exact h.elim
  ·intro args hp K h
   unfold zrz at h
   split at h
   ·rename_i w key nonce aad s
    obtain ⟨ht,hn⟩:=zy h
    have four:w=4865∨w=4866∨w=4867∨(w≠4865∧w≠4866∧w≠4867):=by omega
    by_cases h0:zeg w key.length∧nonce.length=12∧aad.length≤65536∧(s.length:Int)≤65536
    ·have h:=ht (decide_eq_true h0)
     have hd:=decide_eq_true h0
     obtain ⟨hk,h1,h2,h3⟩:=h0
     unfold zeg at hk
     unfold y4 at h
     by_cases h4:w=4867
     ·rw [if_pos h4] at h
      have hpp:key.length=32∧nonce.length=12∧aad.length≤65536∧(s.length:Int)≤65536:=⟨by omega,h1,h2,h3⟩
      repeat ((conv=>whnf);first|refine zu ?_|refine zi ?_|refine zj ?_|refine zb ?_|refine zw (by first|exact hd|(rw [hd];rfl)) ?_|refine zo (by first|exact hd|(rw [hd];rfl)) ?_|refine zn (by first|exact hd|(rw [hd];rfl)) ?_)
      conv=>whnf
      exact ze [] h
     ·rw [if_neg h4] at h
      have hpp:(key.length=16∨key.length=32)∧nonce.length=12∧aad.length≤65536∧(s.length:Int)≤65536:=⟨by omega,h1,h2,h3⟩
      rcases hk with ⟨g0,g1⟩|⟨g0,g1⟩|⟨g0,g1⟩
      ·refine za ?_
       exact ze [] h
      ·refine za ?_
       exact ze [] h
      ·exact absurd g0 h4
    ·have h:=hn (decide_eq_false h0)
     rcases four with h1|h1|h1|⟨h1,h2,h3⟩
     ·by_cases g1:key.length=16
      ·by_cases g2:nonce.length=12
       ·by_cases g3:aad.length≤65536
        ·have g4: ¬(s.length:Int)≤65536:=fun g=>h0 ⟨.inl ⟨h1,g1⟩,g2,g3,g⟩
         refine za ?_
         exact ze [] h
        ·refine za ?_
         exact ze [] h
       ·refine za ?_
        exact ze [] h
      ·refine za ?_
       exact ze [] h
     ·by_cases g1:key.length=32
      ·by_cases g2:nonce.length=12
       ·by_cases g3:aad.length≤65536
        ·have g4: ¬(s.length:Int)≤65536:=fun g=>h0 ⟨.inr (.inl ⟨h1,g1⟩),g2,g3,g⟩
         refine za ?_
         exact ze [] h
        ·refine za ?_
         exact ze [] h
       ·refine za ?_
        exact ze [] h
      ·refine za ?_
       exact ze [] h
     ·by_cases g1:key.length=32
      ·by_cases g2:nonce.length=12
       ·by_cases g3:aad.length≤65536
        ·have g4: ¬(s.length:Int)≤65536:=fun g=>h0 ⟨.inr (.inr ⟨h1,g1⟩),g2,g3,g⟩
         refine za ?_
         exact ze [] h
        ·refine za ?_
         exact ze [] h
       ·refine za ?_
        exact ze [] h
      ·refine za ?_
       exact ze [] h
     ·refine za ?_
      exact ze [] h
   ·exact h.elim
end Go.Sym.Z
