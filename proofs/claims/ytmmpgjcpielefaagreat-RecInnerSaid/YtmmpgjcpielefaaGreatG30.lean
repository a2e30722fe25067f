/-
  Contracts of functions of the program, each said of symbolic values, and plain laws; no condition beyond each statement's own.
-/
import Derived.Test.YtmmpgjcpielefaaGreatG17
import Derived.Test.YtmmpgjcpielefaaGreatG29
set_option linter.unusedSimpArgs false
set_option linter.unusedVariables false
namespace Go.Sym.Pol
open Go.Sym.Lp
def pP:Nat:=1361129467683753853853498429727072845819
def ws:List UInt64→Nat
  | [a,b,c,d,e]=>a.toNat+67108864*b.toNat+4503599627370496*c.toNat+302231454903657293676544*d.toNat+20282409603651670423947251286016*e.toNat
  |_=>0
theorem zd5 {x:List UInt64} (h:x.length=5): ∃a b c d e,x= [a,b,c,d,e]:=by
  match x,h with
  | [a,b,c,d,e],_=>exact ⟨a,b,c,d,e,rfl⟩
def M26:UInt64:=67108863
theorem zca (x:UInt64):(x>>>(26:UInt64)).toNat=x.toNat/ 67108864:=by
  rw [UInt64.toNat_shiftRight]
  show x.toNat>>>(26%64)=_
  rw [Nat.shiftRight_eq_div_pow]
theorem za1 (x:UInt64):(x&&&M26).toNat=x.toNat%67108864:=by
  rw [UInt64.toNat_and]
  show x.toNat&&&(2^26-1)=_
  rw [Nat.and_two_pow_sub_one_eq_mod]
theorem xn {x y:UInt64} (h:x.toNat+y.toNat<18446744073709551616):(x+y).toNat=x.toNat+y.toNat:=by
  rw [UInt64.toNat_add];exact Nat.mod_eq_of_lt h
theorem z1j {x y:UInt64} (h:x.toNat*y.toNat<18446744073709551616):(x*y).toNat=x.toNat*y.toNat:=by
  rw [UInt64.toNat_mul];exact Nat.mod_eq_of_lt h
def g64 (x:List UInt64) (i:Nat):UInt64:=x.getD i 0
def za4 (x:List UInt64):Nat→List UInt64
  |0=>x
  |i+1=>
   let y:=za4 x i
   let c:=g64 y (i%5)>>>(26:UInt64)
   let z:=y.set (i%5) (g64 y (i%5)&&&M26)
   if i%5=4 then z.set 0 (g64 z 0+5*c) else z.set (i%5+1) (g64 z (i%5+1)+c)
theorem zlg (x:List UInt64): ∀i,(za4 x i).length=x.length
  |0=>rfl
  |i+1=>by
   simp only [za4]
   split<;>simp [zlg x i]
def car (x:List UInt64):List UInt64:=za4 x 6
theorem zxc (a b c d e:UInt64):car [a,b,c,d,e]=
    (let c0:=a>>>(26:UInt64);let b1:=b+c0;let c1:=b1>>>(26:UInt64);let c':=c+c1;let c2:=c'>>>(26:UInt64);let d':=d+c2;let c3:=d'>>>(26:UInt64);let e':=e+c3;let c4:=e'>>>(26:UInt64)
     let a':=(a&&&M26)+5*c4;let c5:=a'>>>(26:UInt64)
     [a'&&&M26,(b1&&&M26)+c5,c'&&&M26,d'&&&M26,e'&&&M26]):=rfl
theorem zy9 {x:List UInt64} (h:x.length=5) (hb: ∀i,i<5→(g64 x i).toNat<1152921504606846976):
    ∃k,ws x=ws (car x)+k*pP∧(car x).length=5∧(∀i,i<5→(g64 (car x) i).toNat<67108864+1048576)∧(g64 (car x) 4).toNat<67108864:=by
  obtain ⟨a,b,c,d,e,rfl⟩:=zd5 h
  have ha:a.toNat<1152921504606846976:=hb 0 (by decide)
  have hb':b.toNat<1152921504606846976:=hb 1 (by decide)
  have hc:c.toNat<1152921504606846976:=hb 2 (by decide)
  have hd:d.toNat<1152921504606846976:=hb 3 (by decide)
  have he:e.toNat<1152921504606846976:=hb 4 (by decide)
  rw [zxc]
  simp only
  have s0:=zca a
  generalize a>>>(26:UInt64)=c0 at*
  have e1:(b+c0).toNat=b.toNat+c0.toNat:=xn (by omega)
  generalize b+c0=b1 at*
  have s1:=zca b1
  generalize hb1:b1>>>(26:UInt64)=c1 at*
  have e2:(c+c1).toNat=c.toNat+c1.toNat:=xn (by omega)
  generalize c+c1=c' at*
  have s2:=zca c'
  generalize c'>>>(26:UInt64)=c2 at*
  have e3:(d+c2).toNat=d.toNat+c2.toNat:=xn (by omega)
  generalize d+c2=d' at*
  have s3:=zca d'
  generalize d'>>>(26:UInt64)=c3 at*
  have e4:(e+c3).toNat=e.toNat+c3.toNat:=xn (by omega)
  generalize e+c3=e' at*
  have s4:=zca e'
  generalize e'>>>(26:UInt64)=c4 at*
  have m5:(5*c4).toNat=5*c4.toNat:=z1j (by show 5*c4.toNat<_;omega)
  have n0:=za1 a
  generalize a&&&M26=a0 at*
  have e5:(a0+5*c4).toNat=a0.toNat+5*c4.toNat:=by rw [xn (by omega),m5]
  generalize a0+5*c4=a' at*
  have s5:=zca a'
  generalize a'>>>(26:UInt64)=c5 at*
  have n1:=za1 b1
  generalize b1&&&M26=b0 at*
  have e6:(b0+c5).toNat=b0.toNat+c5.toNat:=xn (by omega)
  have n2:=za1 a'
  have n3:=za1 c'
  have n4:=za1 d'
  have n5:=za1 e'
  refine ⟨c4.toNat,?_,rfl,?_,?_⟩
  ·simp only [ws]
   rw [e6,n2,n3,n4,n5]
   unfold pP
   omega
  ·intro i hi
   have:i=0∨i=1∨i=2∨i=3∨i=4:=by omega
   rcases this with rfl|rfl|rfl|rfl|rfl
   ·show (a'&&&M26).toNat<_;omega
   ·show (b0+c5).toNat<_;omega
   ·show (c'&&&M26).toNat<_;omega
   ·show (d'&&&M26).toNat<_;omega
   ·show (e'&&&M26).toNat<_;omega
  ·show (e'&&&M26).toNat<_;omega
theorem z5m {x:List UInt64} (h:x.length=5) (hb: ∀i,i<5→i≠1→(g64 x i).toNat<67108864) (hb1:(g64 x 1).toNat<67108864+1048576):
    ∃k,ws x=ws (car x)+k*pP∧(car x).length=5∧(∀i,i<5→(g64 (car x) i).toNat<67108864):=by
  obtain ⟨a,b,c,d,e,rfl⟩:=zd5 h
  have ha:a.toNat<67108864:=hb 0 (by decide) (by decide)
  have hb':b.toNat<67108864+1048576:=hb1
  have hc:c.toNat<67108864:=hb 2 (by decide) (by decide)
  have hd:d.toNat<67108864:=hb 3 (by decide) (by decide)
  have he:e.toNat<67108864:=hb 4 (by decide) (by decide)
  rw [zxc]
  simp only
  have s0:=zca a
  generalize a>>>(26:UInt64)=c0 at*
  have e1:(b+c0).toNat=b.toNat+c0.toNat:=xn (by omega)
  generalize b+c0=b1 at*
  have s1:=zca b1
  generalize hb1:b1>>>(26:UInt64)=c1 at*
  have e2:(c+c1).toNat=c.toNat+c1.toNat:=xn (by omega)
  generalize c+c1=c' at*
  have s2:=zca c'
  generalize c'>>>(26:UInt64)=c2 at*
  have e3:(d+c2).toNat=d.toNat+c2.toNat:=xn (by omega)
  generalize d+c2=d' at*
  have s3:=zca d'
  generalize d'>>>(26:UInt64)=c3 at*
  have e4:(e+c3).toNat=e.toNat+c3.toNat:=xn (by omega)
  generalize e+c3=e' at*
  have s4:=zca e'
  generalize e'>>>(26:UInt64)=c4 at*
  have m5:(5*c4).toNat=5*c4.toNat:=z1j (by show 5*c4.toNat<_;omega)
  have n0:=za1 a
  generalize a&&&M26=a0 at*
  have e5:(a0+5*c4).toNat=a0.toNat+5*c4.toNat:=by rw [xn (by omega),m5]
  generalize a0+5*c4=a' at*
  have s5:=zca a'
  generalize a'>>>(26:UInt64)=c5 at*
  have n1:=za1 b1
  generalize b1&&&M26=b0 at*
  have e6:(b0+c5).toNat=b0.toNat+c5.toNat:=xn (by omega)
  have n2:=za1 a'
  have n3:=za1 c'
  have n4:=za1 d'
  have n5:=za1 e'
  refine ⟨c4.toNat,?_,rfl,?_⟩
  ·simp only [ws]
   rw [e6,n2,n3,n4,n5]
   unfold pP
   omega
  ·intro i hi
   have:i=0∨i=1∨i=2∨i=3∨i=4:=by omega
   rcases this with rfl|rfl|rfl|rfl|rfl
   ·show (a'&&&M26).toNat<_;omega
   ·show (b0+c5).toNat<_;omega
   ·show (c'&&&M26).toNat<_;omega
   ·show (d'&&&M26).toNat<_;omega
   ·show (e'&&&M26).toNat<_;omega
def zs1 (x r:List UInt64) (i k:Nat):UInt64:=if 5≤i+k then g64 x i*g64 r k*5 else g64 x i*g64 r k
def xq (x r:List UInt64):Nat→List UInt64
  |0=> [0,0,0,0,0]
  |n+1=>(xq x r n).set ((n/ 5+n%5)%5) (g64 (xq x r n) ((n/ 5+n%5)%5)+zs1 x r (n/ 5) (n%5))
theorem zbo (x r:List UInt64): ∀n,(xq x r n).length=5
  |0=>rfl
  |n+1=>by simp only [xq,List.length_set];exact zbo x r n
theorem x3 (x r:List UInt64) (n:Nat):xq x r (n+1)=(xq x r n).set ((n/ 5+n%5)%5) (g64 (xq x r n) ((n/ 5+n%5)%5)+zs1 x r (n/ 5) (n%5)):=rfl
theorem ygp (a b c d e r s t u v:UInt64):xq [a,b,c,d,e] [r,s,t,u,v] 25= [0+a*r+b*v*5+c*u*5+d*t*5+e*s*5,0+a*s+b*r+c*v*5+d*u*5+e*t*5,0+a*t+b*s+c*r+d*v*5+e*u*5,0+a*u+b*t+c*s+d*r+e*v*5,0+a*v+b*u+c*t+d*s+e*r]:=by
  have h1:xq [a,b,c,d,e] [r,s,t,u,v] 1= [0+a*r,0,0,0,0]:=rfl
  have h2:xq [a,b,c,d,e] [r,s,t,u,v] 2= [0+a*r,0+a*s,0,0,0]:=by rw [x3 _ _ 1,h1];rfl
  have h3:xq [a,b,c,d,e] [r,s,t,u,v] 3= [0+a*r,0+a*s,0+a*t,0,0]:=by rw [x3 _ _ 2,h2];rfl
  have h4:xq [a,b,c,d,e] [r,s,t,u,v] 4= [0+a*r,0+a*s,0+a*t,0+a*u,0]:=by rw [x3 _ _ 3,h3];rfl
  have h5:xq [a,b,c,d,e] [r,s,t,u,v] 5= [0+a*r,0+a*s,0+a*t,0+a*u,0+a*v]:=by rw [x3 _ _ 4,h4];rfl
  have h6:xq [a,b,c,d,e] [r,s,t,u,v] 6= [0+a*r,0+a*s+b*r,0+a*t,0+a*u,0+a*v]:=by rw [x3 _ _ 5,h5];rfl
  have h7:xq [a,b,c,d,e] [r,s,t,u,v] 7= [0+a*r,0+a*s+b*r,0+a*t+b*s,0+a*u,0+a*v]:=by rw [x3 _ _ 6,h6];rfl
  have h8:xq [a,b,c,d,e] [r,s,t,u,v] 8= [0+a*r,0+a*s+b*r,0+a*t+b*s,0+a*u+b*t,0+a*v]:=by rw [x3 _ _ 7,h7];rfl
  have h9:xq [a,b,c,d,e] [r,s,t,u,v] 9= [0+a*r,0+a*s+b*r,0+a*t+b*s,0+a*u+b*t,0+a*v+b*u]:=by rw [x3 _ _ 8,h8];rfl
  have h10:xq [a,b,c,d,e] [r,s,t,u,v] 10= [0+a*r+b*v*5,0+a*s+b*r,0+a*t+b*s,0+a*u+b*t,0+a*v+b*u]:=by rw [x3 _ _ 9,h9];rfl
  have h11:xq [a,b,c,d,e] [r,s,t,u,v] 11= [0+a*r+b*v*5,0+a*s+b*r,0+a*t+b*s+c*r,0+a*u+b*t,0+a*v+b*u]:=by rw [x3 _ _ 10,h10];rfl
  have h12:xq [a,b,c,d,e] [r,s,t,u,v] 12= [0+a*r+b*v*5,0+a*s+b*r,0+a*t+b*s+c*r,0+a*u+b*t+c*s,0+a*v+b*u]:=by rw [x3 _ _ 11,h11];rfl
  have h13:xq [a,b,c,d,e] [r,s,t,u,v] 13= [0+a*r+b*v*5,0+a*s+b*r,0+a*t+b*s+c*r,0+a*u+b*t+c*s,0+a*v+b*u+c*t]:=by rw [x3 _ _ 12,h12];rfl
  have h14:xq [a,b,c,d,e] [r,s,t,u,v] 14= [0+a*r+b*v*5+c*u*5,0+a*s+b*r,0+a*t+b*s+c*r,0+a*u+b*t+c*s,0+a*v+b*u+c*t]:=by rw [x3 _ _ 13,h13];rfl
  have h15:xq [a,b,c,d,e] [r,s,t,u,v] 15= [0+a*r+b*v*5+c*u*5,0+a*s+b*r+c*v*5,0+a*t+b*s+c*r,0+a*u+b*t+c*s,0+a*v+b*u+c*t]:=by rw [x3 _ _ 14,h14];rfl
  have h16:xq [a,b,c,d,e] [r,s,t,u,v] 16= [0+a*r+b*v*5+c*u*5,0+a*s+b*r+c*v*5,0+a*t+b*s+c*r,0+a*u+b*t+c*s+d*r,0+a*v+b*u+c*t]:=by rw [x3 _ _ 15,h15];rfl
  have h17:xq [a,b,c,d,e] [r,s,t,u,v] 17= [0+a*r+b*v*5+c*u*5,0+a*s+b*r+c*v*5,0+a*t+b*s+c*r,0+a*u+b*t+c*s+d*r,0+a*v+b*u+c*t+d*s]:=by rw [x3 _ _ 16,h16];rfl
  have h18:xq [a,b,c,d,e] [r,s,t,u,v] 18= [0+a*r+b*v*5+c*u*5+d*t*5,0+a*s+b*r+c*v*5,0+a*t+b*s+c*r,0+a*u+b*t+c*s+d*r,0+a*v+b*u+c*t+d*s]:=by rw [x3 _ _ 17,h17];rfl
  have h19:xq [a,b,c,d,e] [r,s,t,u,v] 19= [0+a*r+b*v*5+c*u*5+d*t*5,0+a*s+b*r+c*v*5+d*u*5,0+a*t+b*s+c*r,0+a*u+b*t+c*s+d*r,0+a*v+b*u+c*t+d*s]:=by rw [x3 _ _ 18,h18];rfl
  have h20:xq [a,b,c,d,e] [r,s,t,u,v] 20= [0+a*r+b*v*5+c*u*5+d*t*5,0+a*s+b*r+c*v*5+d*u*5,0+a*t+b*s+c*r+d*v*5,0+a*u+b*t+c*s+d*r,0+a*v+b*u+c*t+d*s]:=by rw [x3 _ _ 19,h19];rfl
  have h21:xq [a,b,c,d,e] [r,s,t,u,v] 21= [0+a*r+b*v*5+c*u*5+d*t*5,0+a*s+b*r+c*v*5+d*u*5,0+a*t+b*s+c*r+d*v*5,0+a*u+b*t+c*s+d*r,0+a*v+b*u+c*t+d*s+e*r]:=by rw [x3 _ _ 20,h20];rfl
  have h22:xq [a,b,c,d,e] [r,s,t,u,v] 22= [0+a*r+b*v*5+c*u*5+d*t*5+e*s*5,0+a*s+b*r+c*v*5+d*u*5,0+a*t+b*s+c*r+d*v*5,0+a*u+b*t+c*s+d*r,0+a*v+b*u+c*t+d*s+e*r]:=by rw [x3 _ _ 21,h21];rfl
  have h23:xq [a,b,c,d,e] [r,s,t,u,v] 23= [0+a*r+b*v*5+c*u*5+d*t*5+e*s*5,0+a*s+b*r+c*v*5+d*u*5+e*t*5,0+a*t+b*s+c*r+d*v*5,0+a*u+b*t+c*s+d*r,0+a*v+b*u+c*t+d*s+e*r]:=by rw [x3 _ _ 22,h22];rfl
  have h24:xq [a,b,c,d,e] [r,s,t,u,v] 24= [0+a*r+b*v*5+c*u*5+d*t*5+e*s*5,0+a*s+b*r+c*v*5+d*u*5+e*t*5,0+a*t+b*s+c*r+d*v*5+e*u*5,0+a*u+b*t+c*s+d*r,0+a*v+b*u+c*t+d*s+e*r]:=by rw [x3 _ _ 23,h23];rfl
  have h25:xq [a,b,c,d,e] [r,s,t,u,v] 25= [0+a*r+b*v*5+c*u*5+d*t*5+e*s*5,0+a*s+b*r+c*v*5+d*u*5+e*t*5,0+a*t+b*s+c*r+d*v*5+e*u*5,0+a*u+b*t+c*s+d*r+e*v*5,0+a*v+b*u+c*t+d*s+e*r]:=by rw [x3 _ _ 24,h24];rfl
  exact h25
def zgs (x r:List UInt64):List UInt64:=car (xq x r 25)
theorem z84 {x y X Y:Nat} (hx:x≤X) (hy:y≤Y):x*y≤X*Y:=Nat.mul_le_mul hx hy
theorem z57 {x r:List UInt64} (hx:x.length=5) (hr:r.length=5) (bx: ∀i,i<5→(g64 x i).toNat<268435456) (br: ∀i,i<5→(g64 r i).toNat<67108864):
    (∃k,ws x*ws r=ws (xq x r 25)+k*pP)∧ ∀i,i<5→(g64 (xq x r 25) i).toNat<1152921504606846976:=by
  obtain ⟨a,b,c,d,e,rfl⟩:=zd5 hx
  obtain ⟨r,s,t,u,v,rfl⟩:=zd5 hr
  have ha:a.toNat≤268435455:=Nat.le_of_lt_succ (bx 0 (by decide))
  have hb:b.toNat≤268435455:=Nat.le_of_lt_succ (bx 1 (by decide))
  have hc:c.toNat≤268435455:=Nat.le_of_lt_succ (bx 2 (by decide))
  have hd:d.toNat≤268435455:=Nat.le_of_lt_succ (bx 3 (by decide))
  have he:e.toNat≤268435455:=Nat.le_of_lt_succ (bx 4 (by decide))
  have hr':r.toNat≤67108863:=Nat.le_of_lt_succ (br 0 (by decide))
  have hs:s.toNat≤67108863:=Nat.le_of_lt_succ (br 1 (by decide))
  have ht:t.toNat≤67108863:=Nat.le_of_lt_succ (br 2 (by decide))
  have hu:u.toNat≤67108863:=Nat.le_of_lt_succ (br 3 (by decide))
  have hv:v.toNat≤67108863:=Nat.le_of_lt_succ (br 4 (by decide))
  rw [ygp]
  have one: ∀{p q:UInt64},p.toNat≤268435455→q.toNat≤67108863→(p*q).toNat=p.toNat*q.toNat∧p.toNat*q.toNat≤18014398174429185:=fun {p q} hp hq=>by
    have:=z84 hp hq
    have hle:p.toNat*q.toNat≤18014398174429185:=Nat.le_trans this (by decide)
    exact ⟨z1j (by omega),hle⟩
  have fv: ∀{p q:UInt64},p.toNat≤268435455→q.toNat≤67108863→(p*q*5).toNat=p.toNat*q.toNat*5∧p.toNat*q.toNat≤18014398174429185:=fun hp hq=>by
    obtain ⟨h1,h2⟩:=one hp hq
    refine ⟨?_,h2⟩
    rw [z1j (by rw [h1];show _*5<_;omega),h1];rfl
  obtain ⟨q00,b00⟩:=one ha hr'
  obtain ⟨q01,b01⟩:=one ha hs
  obtain ⟨q02,b02⟩:=one ha ht
  obtain ⟨q03,b03⟩:=one ha hu
  obtain ⟨q04,b04⟩:=one ha hv
  obtain ⟨q10,b10⟩:=one hb hr'
  obtain ⟨q11,b11⟩:=one hb hs
  obtain ⟨q12,b12⟩:=one hb ht
  obtain ⟨q13,b13⟩:=one hb hu
  obtain ⟨q14,b14⟩:=fv hb hv
  obtain ⟨q20,b20⟩:=one hc hr'
  obtain ⟨q21,b21⟩:=one hc hs
  obtain ⟨q22,b22⟩:=one hc ht
  obtain ⟨q23,b23⟩:=fv hc hu
  obtain ⟨q24,b24⟩:=fv hc hv
  obtain ⟨q30,b30⟩:=one hd hr'
  obtain ⟨q31,b31⟩:=one hd hs
  obtain ⟨q32,b32⟩:=fv hd ht
  obtain ⟨q33,b33⟩:=fv hd hu
  obtain ⟨q34,b34⟩:=fv hd hv
  obtain ⟨q40,b40⟩:=one he hr'
  obtain ⟨q41,b41⟩:=fv he hs
  obtain ⟨q42,b42⟩:=fv he ht
  obtain ⟨q43,b43⟩:=fv he hu
  obtain ⟨q44,b44⟩:=fv he hv
  have w00:(0+a*r).toNat=a.toNat*r.toNat:=by rw [xn (by rw [q00];show 0+_<_;omega),q00];show 0+_=_;omega
  have w01:(0+a*r+b*v*5).toNat=a.toNat*r.toNat+b.toNat*v.toNat*5:=by rw [xn (by rw [w00,q14];omega),w00,q14]
  have w02:(0+a*r+b*v*5+c*u*5).toNat=a.toNat*r.toNat+b.toNat*v.toNat*5+c.toNat*u.toNat*5:=by rw [xn (by rw [w01,q23];omega),w01,q23]
  have w03:(0+a*r+b*v*5+c*u*5+d*t*5).toNat=a.toNat*r.toNat+b.toNat*v.toNat*5+c.toNat*u.toNat*5+d.toNat*t.toNat*5:=by rw [xn (by rw [w02,q32];omega),w02,q32]
  have w04:(0+a*r+b*v*5+c*u*5+d*t*5+e*s*5).toNat=a.toNat*r.toNat+b.toNat*v.toNat*5+c.toNat*u.toNat*5+d.toNat*t.toNat*5+e.toNat*s.toNat*5:=by rw [xn (by rw [w03,q41];omega),w03,q41]
  have w10:(0+a*s).toNat=a.toNat*s.toNat:=by rw [xn (by rw [q01];show 0+_<_;omega),q01];show 0+_=_;omega
  have w11:(0+a*s+b*r).toNat=a.toNat*s.toNat+b.toNat*r.toNat:=by rw [xn (by rw [w10,q10];omega),w10,q10]
  have w12:(0+a*s+b*r+c*v*5).toNat=a.toNat*s.toNat+b.toNat*r.toNat+c.toNat*v.toNat*5:=by rw [xn (by rw [w11,q24];omega),w11,q24]
  have w13:(0+a*s+b*r+c*v*5+d*u*5).toNat=a.toNat*s.toNat+b.toNat*r.toNat+c.toNat*v.toNat*5+d.toNat*u.toNat*5:=by rw [xn (by rw [w12,q33];omega),w12,q33]
  have w14:(0+a*s+b*r+c*v*5+d*u*5+e*t*5).toNat=a.toNat*s.toNat+b.toNat*r.toNat+c.toNat*v.toNat*5+d.toNat*u.toNat*5+e.toNat*t.toNat*5:=by rw [xn (by rw [w13,q42];omega),w13,q42]
  have w20:(0+a*t).toNat=a.toNat*t.toNat:=by rw [xn (by rw [q02];show 0+_<_;omega),q02];show 0+_=_;omega
  have w21:(0+a*t+b*s).toNat=a.toNat*t.toNat+b.toNat*s.toNat:=by rw [xn (by rw [w20,q11];omega),w20,q11]
  have w22:(0+a*t+b*s+c*r).toNat=a.toNat*t.toNat+b.toNat*s.toNat+c.toNat*r.toNat:=by rw [xn (by rw [w21,q20];omega),w21,q20]
  have w23:(0+a*t+b*s+c*r+d*v*5).toNat=a.toNat*t.toNat+b.toNat*s.toNat+c.toNat*r.toNat+d.toNat*v.toNat*5:=by rw [xn (by rw [w22,q34];omega),w22,q34]
  have w24:(0+a*t+b*s+c*r+d*v*5+e*u*5).toNat=a.toNat*t.toNat+b.toNat*s.toNat+c.toNat*r.toNat+d.toNat*v.toNat*5+e.toNat*u.toNat*5:=by rw [xn (by rw [w23,q43];omega),w23,q43]
  have w30:(0+a*u).toNat=a.toNat*u.toNat:=by rw [xn (by rw [q03];show 0+_<_;omega),q03];show 0+_=_;omega
  have w31:(0+a*u+b*t).toNat=a.toNat*u.toNat+b.toNat*t.toNat:=by rw [xn (by rw [w30,q12];omega),w30,q12]
  have w32:(0+a*u+b*t+c*s).toNat=a.toNat*u.toNat+b.toNat*t.toNat+c.toNat*s.toNat:=by rw [xn (by rw [w31,q21];omega),w31,q21]
  have w33:(0+a*u+b*t+c*s+d*r).toNat=a.toNat*u.toNat+b.toNat*t.toNat+c.toNat*s.toNat+d.toNat*r.toNat:=by rw [xn (by rw [w32,q30];omega),w32,q30]
  have w34:(0+a*u+b*t+c*s+d*r+e*v*5).toNat=a.toNat*u.toNat+b.toNat*t.toNat+c.toNat*s.toNat+d.toNat*r.toNat+e.toNat*v.toNat*5:=by rw [xn (by rw [w33,q44];omega),w33,q44]
  have w40:(0+a*v).toNat=a.toNat*v.toNat:=by rw [xn (by rw [q04];show 0+_<_;omega),q04];show 0+_=_;omega
  have w41:(0+a*v+b*u).toNat=a.toNat*v.toNat+b.toNat*u.toNat:=by rw [xn (by rw [w40,q13];omega),w40,q13]
  have w42:(0+a*v+b*u+c*t).toNat=a.toNat*v.toNat+b.toNat*u.toNat+c.toNat*t.toNat:=by rw [xn (by rw [w41,q22];omega),w41,q22]
  have w43:(0+a*v+b*u+c*t+d*s).toNat=a.toNat*v.toNat+b.toNat*u.toNat+c.toNat*t.toNat+d.toNat*s.toNat:=by rw [xn (by rw [w42,q31];omega),w42,q31]
  have w44:(0+a*v+b*u+c*t+d*s+e*r).toNat=a.toNat*v.toNat+b.toNat*u.toNat+c.toNat*t.toNat+d.toNat*s.toNat+e.toNat*r.toNat:=by rw [xn (by rw [w43,q40];omega),w43,q40]
  refine ⟨⟨b.toNat*v.toNat*1+c.toNat*u.toNat*1+c.toNat*v.toNat*67108864+d.toNat*t.toNat*1+d.toNat*u.toNat*67108864+d.toNat*v.toNat*4503599627370496+e.toNat*s.toNat*1+e.toNat*t.toNat*67108864+e.toNat*u.toNat*4503599627370496+e.toNat*v.toNat*302231454903657293676544,?_⟩,?_⟩
  ·simp only [ws]
   rw [w04,w14,w24,w34,w44]
   unfold pP
   clear one fv
   generalize a.toNat=a at*
   generalize b.toNat=b at*
   generalize c.toNat=c at*
   generalize d.toNat=d at*
   generalize e.toNat=e at*
   generalize r.toNat=r at*
   generalize s.toNat=s at*
   generalize t.toNat=t at*
   generalize u.toNat=u at*
   generalize v.toNat=v at*
   clear b00 b01 b02 b03 b04 b10 b11 b12 b13 b14 b20 b21 b22 b23 b24 b30 b31 b32 b33 b34 b40 b41 b42 b43 b44 ha hb hc hd he hr' hs ht hu hv
   grind
  ·intro i hi
   have:i=0∨i=1∨i=2∨i=3∨i=4:=by omega
   rcases this with rfl|rfl|rfl|rfl|rfl
   ·show (UInt64.toNat (_+_))<_;rw [w04];omega
   ·show (UInt64.toNat (_+_))<_;rw [w14];omega
   ·show (UInt64.toNat (_+_))<_;rw [w24];omega
   ·show (UInt64.toNat (_+_))<_;rw [w34];omega
   ·show (UInt64.toNat (_+_))<_;rw [w44];omega
end Go.Sym.Pol
namespace Go.Sym.Pol
open Go.Sym.Lp
def zjl (x y:List UInt64):List UInt64:=(List.range 5).map fun i=>g64 x i+g64 y i
theorem zgx (x y:List UInt64):(zjl x y).length=5:=zz _ _
theorem zdh (x:List UInt64):(car x).length=x.length:=zlg x 6
theorem zz3 (x r:List UInt64):(zgs x r).length=5:=by unfold zgs;rw [zdh,zbo]
theorem zxs (x:List UInt64) (i:Nat) (h: ¬i%5=4):za4 x (i+1)=((za4 x i).set (i%5) (g64 (za4 x i) (i%5)&&&M26)).set (i%5+1) (g64 ((za4 x i).set (i%5) (g64 (za4 x i) (i%5)&&&M26)) (i%5+1)+g64 (za4 x i) (i%5)>>>(26:UInt64)):=by
  simp only [za4];rw [if_neg h]
theorem zv2 (x:List UInt64) (i:Nat) (h:i%5=4):za4 x (i+1)=((za4 x i).set (i%5) (g64 (za4 x i) (i%5)&&&M26)).set 0 (g64 ((za4 x i).set (i%5) (g64 (za4 x i) (i%5)&&&M26)) 0+5*g64 (za4 x i) (i%5)>>>(26:UInt64)):=by
  simp only [za4];rw [if_pos h]
def zay (b:List UInt8):Nat→List UInt64
  |0=> [0,0,0]
  |i+1=>(zay b i).set (i/ 8) (g64 (zay b i) (i/ 8)|||(b.getD i 0).toUInt64<<<UInt64.ofNat (8*(i%8)))
theorem zdr (b:List UInt8): ∀i,(zay b i).length=3
  |0=>rfl
  |i+1=>by simp only [zay,List.length_set];exact zdr b i
def ldW (b:List UInt8):List UInt64:=(zay b b.length).set (b.length/ 8) (g64 (zay b b.length) (b.length/ 8)|||(1:UInt64)<<<UInt64.ofNat (8*(b.length%8)))
def ycd (w:List UInt64):List UInt64:=
  [g64 w 0&&&M26,g64 w 0>>>(26:UInt64)&&&M26,(g64 w 0>>>(52:UInt64)|||g64 w 1<<<(12:UInt64))&&&M26,g64 w 1>>>(14:UInt64)&&&M26,g64 w 1>>>(40:UInt64)|||g64 w 2<<<(24:UInt64)]
def zdq (b:List UInt8):List UInt64:=ycd (ldW b)
theorem zcj (b:List UInt8):(zdq b).length=5:=rfl
def zs5 (r x:List UInt64) (b:List UInt8):List UInt64:=zgs (zjl x (zdq b)) r
theorem z4z (r x:List UInt64) (b:List UInt8):(zs5 r x b).length=5:=zz3 _ _
end Go.Sym.Pol
namespace Go.Sym.Pol
theorem zza (x r:List UInt64) {i k:Nat} (hk:k<5):xq x r (5*i+k+1)=(xq x r (5*i+k)).set ((i+k)%5) (g64 (xq x r (5*i+k)) ((i+k)%5)+zs1 x r i k):=by
  rw [x3,show (5*i+k)/ 5=i by omega,show (5*i+k)%5=k by omega]
end Go.Sym.Pol
namespace Go.Sym.Pol
open Go.Sym.Lp
def zbw (r x:List UInt64) (B:List UInt8):Nat→List UInt64
  |0=>x
  |t+1=>zs5 r (zbw r x B t) ((B.drop (16*t)).take 16)
def zcl (r x:List UInt64) (B:List UInt8):List UInt64:=zbw r x B ((B.length+15)/ 16)
theorem zez {r x:List UInt64} (hx:x.length=5) (B:List UInt8): ∀t,(zbw r x B t).length=5
  |0=>hx
  |_+1=>z4z _ _ _
theorem zn6 {r x:List UInt64} (hx:x.length=5) (B:List UInt8):(zcl r x B).length=5:=zez hx B _
theorem yaf {l:List UInt8} {n a:Nat}:((l.take n).drop a).take 16=(l.drop a).take (min 16 (n-a)):=by
  rw [List.drop_take,List.take_take]
def za8 (x:List UInt64):Nat→List UInt64
  |0=>x.set 0 (g64 x 0+5)
  |i+1=>((za8 x i).set (i+1) (g64 (za8 x i) (i+1)+g64 (za8 x i) i>>>(26:UInt64))).set i (g64 ((za8 x i).set (i+1) (g64 (za8 x i) (i+1)+g64 (za8 x i) i>>>(26:UInt64))) i&&&M26)
theorem zkn (x:List UInt64): ∀i,(za8 x i).length=x.length
  |0=>by simp [za8]
  |i+1=>by simp only [za8,List.length_set];exact zkn x i
def zaw (x:List UInt64):List UInt64:=
  if 0<(g64 (za8 (car (car x)) 4) 4>>>(26:UInt64)).toNat then (za8 (car (car x)) 4).set 4 (g64 (za8 (car (car x)) 4) 4&&&M26) else car (car x)
theorem z1e {x:List UInt64} (h:x.length=5):(zaw x).length=5:=by
  unfold zaw;split
  ·rw [List.length_set,zkn,zdh,zdh,h]
  ·rw [zdh,zdh,h]
def zl0 (x:List UInt64):UInt64:=g64 x 0|||g64 x 1<<<(26:UInt64)|||g64 x 2<<<(52:UInt64)
def zfu (x:List UInt64):UInt64:=g64 x 2>>>(12:UInt64)|||g64 x 3<<<(14:UInt64)|||g64 x 4<<<(40:UInt64)
def zbt (lo hi:UInt64) (key:List UInt8):Nat→List UInt8×UInt64
  |0=>(List.replicate 16 0,0)
  |i+1=>
   let c:=(zbt lo hi key i).2+(((if 8≤i then hi else lo)>>>UInt64.ofNat (8*(i%8))&&&255)+(key.getD (16+i) 0).toUInt64)
   ((zbt lo hi key i).1.set i c.toUInt8,c>>>(8:UInt64))
theorem zoc (lo hi:UInt64) (key:List UInt8): ∀i,(zbt lo hi key i).1.length=16
  |0=>rfl
  |i+1=>by simp only [zbt,List.length_set];exact zoc lo hi key i
def zf3 (x:List UInt64) (key:List UInt8):List UInt8:=(zbt (zl0 (zaw x)) (zfu (zaw x)) key 16).1
theorem z1s (x:List UInt64) (key:List UInt8):(zf3 x key).length=16:=zoc _ _ _ 16
end Go.Sym.Pol
namespace Go.Sym.Pol
section
variable (lo hi:UInt64) (key:List UInt8) {i:Nat}
theorem zyg:zbt lo hi key 0=(List.replicate 16 0,0):=rfl
theorem yae (h:8≤i):zbt lo hi key (i+1)=((zbt lo hi key i).1.set i ((zbt lo hi key i).2+((hi>>>UInt64.ofNat (8*(i%8))&&&255)+(key.getD (16+i) 0).toUInt64)).toUInt8,((zbt lo hi key i).2+((hi>>>UInt64.ofNat (8*(i%8))&&&255)+(key.getD (16+i) 0).toUInt64))>>>(8:UInt64)):=by
  simp only [zbt];rw [if_pos h]
theorem yal (h: ¬8≤i):zbt lo hi key (i+1)=((zbt lo hi key i).1.set i ((zbt lo hi key i).2+((lo>>>UInt64.ofNat (8*(i%8))&&&255)+(key.getD (16+i) 0).toUInt64)).toUInt8,((zbt lo hi key i).2+((lo>>>UInt64.ofNat (8*(i%8))&&&255)+(key.getD (16+i) 0).toUInt64))>>>(8:UInt64)):=by
  simp only [zbt];rw [if_neg h]
end
end Go.Sym.Pol
namespace Go.Sym.Pol
open Go.Sym.Lp
def cA (b:List UInt8):Nat→List UInt8
  |0=>b
  |j+1=>(cA b j).set (3+4*j) ((cA b j).getD (3+4*j) 0&&&UInt8.ofNat 15)
def cC (b:List UInt8):Nat→List UInt8
  |0=>b
  |j+1=>(cC b j).set (4+4*j) ((cC b j).getD (4+4*j) 0&&&UInt8.ofNat 252)
theorem zx2 (b:List UInt8): ∀j,(cA b j).length=b.length
  |0=>rfl
  |j+1=>by simp only [cA,List.length_set];exact zx2 b j
theorem zwt (b:List UInt8): ∀j,(cC b j).length=b.length
  |0=>rfl
  |j+1=>by simp only [cC,List.length_set];exact zwt b j
theorem zp8 {b tl:List UInt8} {k:Nat} (h:k<b.length) (m:UInt8):(b++tl).set k ((b++tl).getD k 0&&&m)=b.set k (b.getD k 0&&&m)++tl:=by
  rw [List.set_append_left _ _ h,List.getD_eq_getElem?_getD,List.getElem?_append_left h,←List.getD_eq_getElem?_getD]
def rOf (key:List UInt8):List UInt64:=(zdq (cC (cA (key.take 16) 4) 3)).set 4 (g64 (zdq (cC (cA (key.take 16) 4) 3)) 4&&&UInt64.ofNat 16777215)
theorem z8o (key:List UInt8):(rOf key).length=5:=by unfold rOf;rw [List.length_set];exact zcj _
def fillB (n:Nat):List UInt8:=List.replicate ((16-n%16)%16) 0
def zb1 (n:Nat):List UInt8:= [UInt8.ofInt (n:Int),UInt8.ofInt ((n:Int)/ 2^8),UInt8.ofInt ((n:Int)/ 2^16),UInt8.ofInt ((n:Int)/ 2^24),0,0,0,0]
def zqv (r:List UInt64) (aad b:List UInt8):List UInt64:=
  zcl r (zcl r (zcl r [0,0,0,0,0] (aad++fillB aad.length)) (b.take (b.length-b.length%16))) (b.drop (b.length-b.length%16)++fillB b.length++zb1 aad.length++zb1 b.length)
end Go.Sym.Pol
namespace Go.Sym.Pol
theorem zbv (n:Nat):(fillB n).length=(16-n%16)%16:=by unfold fillB;exact List.length_replicate
theorem zc6 (n:Nat):(zb1 n).length=8:=rfl
end Go.Sym.Pol

namespace Go.Sym.Z
open Go Go.Proofs.Tryz Go.Sym.Lp Go.Sym.Pol
set_option maxRecDepth 100000
attribute [local irreducible] zay za4 xq
def yg3:List (Nat×List PStep):= [(4,[⟨0,[]⟩,⟨1,[0]⟩,⟨2,[0]⟩,⟨3,[1,2]⟩,⟨4,[]⟩,⟨5,[]⟩,⟨6,[]⟩,⟨7,[1,2,3,4,5,6]⟩,⟨8,[]⟩,⟨9,[]⟩]),(6,[⟨0,[]⟩,⟨1,[]⟩,⟨2,[]⟩,⟨3,[]⟩,⟨4,[0,1,2,3]⟩,⟨5,[0,1,2,3]⟩,⟨6,[]⟩,⟨7,[1,2,3,4,5,6]⟩,⟨8,[]⟩,⟨9,[]⟩]),(7,[⟨0,[]⟩,⟨1,[0]⟩,⟨2,[0]⟩,⟨3,[0]⟩,⟨4,[1,2,3]⟩,⟨5,[]⟩,⟨6,[]⟩,⟨7,[0,1,2,3,4,5,6]⟩,⟨8,[]⟩,⟨9,[1,2,3,4,5,6,7,8]⟩,⟨10,[]⟩,⟨11,[]⟩])]
def ydr:List (Nat×List PStep):= [(7,[⟨0,[]⟩,⟨1,[0]⟩,⟨2,[1]⟩,⟨3,[]⟩,⟨4,[]⟩,⟨5,[0,1,2,3,4]⟩,⟨6,[0,1,2,3,4,5]⟩,⟨7,[0,1,2,3,4,6]⟩,⟨8,[0,1,2,3,4]⟩,⟨9,[0,1,2,3,4]⟩,⟨10,[]⟩,⟨11,[]⟩])]
def yed:List (Nat×List PStep):= [(5,[⟨0,[]⟩,⟨1,[]⟩,⟨2,[]⟩,⟨3,[]⟩,⟨4,[0,1,2,3]⟩,⟨5,[0,1,2,3]⟩,⟨6,[0,1,2,3,4,5]⟩,⟨7,[0,1,2,3,4,5]⟩,⟨8,[0,1,2,3,4,5]⟩,⟨9,[0,1,2,3]⟩,⟨10,[]⟩,⟨11,[]⟩,⟨12,[]⟩]),(7,[⟨0,[]⟩,⟨1,[]⟩,⟨2,[]⟩,⟨3,[]⟩,⟨4,[]⟩,⟨5,[0,1,2,3,4]⟩,⟨6,[0,1,2,3,4]⟩,⟨7,[0,1,2,3,4]⟩,⟨8,[0,1,2,3,4]⟩,⟨9,[0,1,2,3,4]⟩,⟨10,[]⟩,⟨11,[]⟩,⟨12,[]⟩])]
def ygs:List (Nat×List PStep):= [(4,[⟨0,[]⟩,⟨1,[0]⟩,⟨2,[1]⟩,⟨3,[1]⟩,⟨4,[]⟩,⟨5,[]⟩,⟨6,[0,1,2,3,4,5]⟩,⟨7,[0,1,2,3,4,5]⟩,⟨8,[0,1,2,3,4,5]⟩,⟨9,[]⟩,⟨10,[1,2,3,4,5,6,7,8,9]⟩,⟨11,[1,2,3,4,5,6,7,8,9]⟩,⟨12,[]⟩,⟨13,[]⟩]),(6,[⟨0,[]⟩,⟨1,[]⟩,⟨2,[]⟩,⟨3,[0,1,2]⟩,⟨4,[0,1,2]⟩,⟨5,[0,1,2]⟩,⟨6,[]⟩])]
def yf9:List (Nat×TyI):= [(3,ty3),(4,ty4),(5,ty5),(9,ty9),(48,zd3),(99,xm),(51,zd6),(168,zea),(220,zg6),(238,zhm),(223,zg1),(193,zho),(236,zg0),(167,zg9)]
theorem xa: ∀t i,y9 yf9 t=some i→yx prog t i:=(zd zda (zd zc8 (zd zc9 (zd zdf (zd zbq (zd zcx (zd zbr (zd zjg (zd z2n (zd z4o (zd z5c (zd z4n (zd z7e (zd z3x zau))))))))))))))
def zw6:Spec:=fun args hp K=>match args,hp with
  | [.ptr 0 0 0 []],[.mk t [.arr64 5 x]]=>Pre (x.length=5) (K (.tup []) [.mk t [.arr64 5 (car x)]])
  |_,_=>False
theorem zy0:zm prog 178 zw6:=by
  refine zk xa zg rfl func178 rfl call178 (D:=yg3) ?_ ?_
  ·intro args hp K h
   unfold zw6 at h
   split at h
   ·exact Nat.le_of_ble_eq_true rfl
   ·exact h.elim
  ·intro args hp K h
   unfold zw6 at h
   split at h
   ·rename_i t x
    obtain ⟨hx,h⟩:=zl h
    refine za ?_
    refine zp (Ix (6)) (fun q=>⟨[(0,.ptr 0 0 0 []),(4,.int q.i)],[.mk t [.arr64 5 (za4 x q.i)]]⟩) (fun q=>(6)-q.i) ⟨0,Nat.zero_le _⟩ [0] ?_ ?_
    ·repeat ((conv=>whnf);refine zb ?_)
     conv=>whnf
     exact zh (congrArg (fun x=>SV.agg [SV.arr64 5 x]) (show x=za4 x 0 by unfold za4;rfl))
    ·intro q
     have hi:=q.hi
     have hl:=zlg x q.i
     have hm:(q.i:Int).tmod 5=((q.i%5:Nat):Int):=by rw [Int.tmod_eq_emod_of_nonneg (by omega)];omega
     have hI:((q.i:Int).tmod 5).toNat=q.i%5:=by omega
     have hJ:((q.i:Int).tmod 5+1).toNat=q.i%5+1:=by omega
     by_cases h4:q.i<6
     ·by_cases h5:q.i%5=4
      ·refine za ?_
       rw [hI]
       conv=>whnf
       refine ⟨⟨q.i+1,h4⟩,[0],by show (6)-(q.i+1)<(6)-q.i;omega,?_⟩
       repeat ((conv=>whnf);refine zb ?_)
       conv=>whnf
       exact zh (congrArg (fun x=>SV.agg [SV.arr64 5 x]) (zv2 x q.i h5).symm)
      ·refine za ?_
       rw [hI,hJ]
       conv=>whnf
       refine ⟨⟨q.i+1,h4⟩,[0],by show (6)-(q.i+1)<(6)-q.i;omega,?_⟩
       repeat ((conv=>whnf);refine zb ?_)
       conv=>whnf
       exact zh (congrArg (fun x=>SV.agg [SV.arr64 5 x]) (zxs x q.i h5).symm)
     ·have e4:q.i=6:=by omega
      rw [e4,show za4 x 6=car x by unfold car;rfl]
      refine za ?_
      exact ze [0] h
   ·exact h.elim
def z6n:Spec:=fun args hp K=>match args,hp with
  | [.sl 0 0 0 o n c],[.mk t [.arr8 m l]]=>Pre (n≤16∧off o+n≤l.length) (K (.arr64 5 (zdq ((l.drop (off o)).take n))) [.mk t [.arr8 m l]])
  |_,_=>False
theorem z69:zm prog 163 z6n:=by
  refine zk xa zg rfl func163 rfl call163 (D:=yed) ?_ ?_
  ·intro args hp K h
   unfold z6n at h
   split at h
   ·exact Nat.le_of_ble_eq_true rfl
   ·exact h.elim
  ·intro args hp K h
   unfold z6n at h
   split at h
   ·rename_i o n c t m l
    obtain ⟨⟨hn,hl⟩,h⟩:=zl h
    have hB:((l.drop (off o)).take n).length=n:=by rw [List.length_take,List.length_drop];omega
    refine za ?_
    refine zp (Ix (n)) (fun q=>⟨[(0,.sl 0 0 0 o n c),(2,.ptr 1 0 0 []),(3,.ptr 2 0 0 []),(6,.sl 0 0 0 o n c),(7,.int n),(8,.int q.i)],[.mk t [.arr8 m l],.mk 220 [.arr64 5 [0,0,0,0,0]],.mk 236 [.arr64 3 (zay ((l.drop (off o)).take n) q.i)]]⟩) (fun q=>(n)-q.i) ⟨0,Nat.zero_le _⟩ [0,1,2] ?_ ?_
    ·repeat ((conv=>whnf);refine zb ?_)
     conv=>whnf
     exact zh (congrArg (fun x=>SV.agg [SV.arr64 3 x]) (show [0,0,0]=zay _ 0 by unfold zay;rfl))
    ·intro q
     have hi:=q.hi
     have hw:=zdr ((l.drop (off o)).take n) q.i
     have hI:((q.i:Int)).toNat=q.i:=Int.toNat_natCast _
     have hd8:(q.i:Int).tdiv 8=((q.i/ 8:Nat):Int):=by rw [Int.tdiv_eq_ediv_of_nonneg (by omega)];omega
     have hm8:(q.i:Int).tmod 8=((q.i%8:Nat):Int):=by rw [Int.tmod_eq_emod_of_nonneg (by omega)];omega
     have hpd:(8:Int)≠0∧yb ((q.i:Int).tdiv 8):=⟨by decide,by unfold yb;omega⟩
     by_cases h4:q.i<n
     ·refine za ?_
      refine ⟨⟨q.i+1,h4⟩,[0,1,2],by show (n)-(q.i+1)<(n)-q.i;omega,?_⟩
      repeat ((conv=>whnf);refine zb ?_)
      conv=>whnf
      refine zq (congrArg (fun x=>SV.agg [SV.arr64 3 x]) ?hv) ?_
      case hv=>
        show (zay _ q.i).set ((q.i:Int).tdiv 8).toNat (g64 (zay _ q.i) ((q.i:Int).tdiv 8).toNat|||(l.getD (off (ye o q.i 1)) 0).toUInt64<<<UInt64.ofNat (8*(q.i:Int).tmod 8).toNat)=zay _ (q.i+1)
        rw [zv,hd8,hm8,Int.toNat_natCast,show (8*((q.i%8:Nat):Int)).toNat=8*(q.i%8) by omega,Nat.mul_one,←zgn (n:=n) h4]
        simp only [zay]
      exact zt
     ·have e4:q.i=n:=by omega
      have hn8:(n:Int).tdiv 8=((n/ 8:Nat):Int):=by rw [Int.tdiv_eq_ediv_of_nonneg (by omega)];omega
      have hk8:(n:Int).tmod 8=((n%8:Nat):Int):=by rw [Int.tmod_eq_emod_of_nonneg (by omega)];omega
      have hpn:(8:Int)≠0∧yb ((n:Int).tdiv 8):=⟨by decide,by unfold yb;omega⟩
      rw [e4] at hw
      rw [e4]
      have hnn:((n:Int).tdiv 8).toNat=n/ 8:=by omega
      have hnk:(8*(n:Int).tmod 8).toNat=8*(n%8):=by omega
      refine za ?_
      rw [hnn,hnk]
      conv=>whnf
      refine yv (hp':= [.mk t [.arr8 m l]]) [0] h ?_
      repeat ((conv=>whnf);refine zb ?_)
      conv=>whnf
      exact zh (congrArg (SV.arr64 5) (show _=zdq ((l.drop (off o)).take n) by unfold zdq ldW;rw [hB];rfl))
   ·exact h.elim
def zw4:Spec:=fun args hp K=>match args,hp with
  | [.ptr 0 1 5 [],.ptr 0 0 0 []],[.mk t [.arr64 5 r,.arr64 5 x]]=>Pre (r.length=5∧x.length=5) (K (.tup []) [.mk t [.arr64 5 r,.arr64 5 (zgs x r)]])
  |_,_=>False
theorem z9t:zm prog 177 zw4:=by
  refine zk xa (zc zy0 zg) rfl func177 rfl call177 (D:=ydr) ?_ ?_
  ·intro args hp K h
   unfold zw4 at h
   split at h
   ·exact Nat.le_of_ble_eq_true rfl
   ·exact h.elim
  ·intro args hp K h
   unfold zw4 at h
   split at h
   ·rename_i t r x
    obtain ⟨⟨hr,hx⟩,h⟩:=zl h
    refine za ?_
    refine zp (Ix (5)) (fun q=>⟨[(0,.ptr 0 1 5 []),(1,.ptr 0 0 0 []),(4,.ptr 1 0 0 []),(8,.int q.i)],[.mk t [.arr64 5 r,.arr64 5 x],.mk 220 [.arr64 5 (xq x r (5*q.i))]]⟩) (fun q=>(5)-q.i) ⟨0,Nat.zero_le _⟩ [0,1] ?_ ?_
    ·repeat ((conv=>whnf);refine zb ?_)
     conv=>whnf
     exact zh (congrArg (fun x=>SV.agg [SV.arr64 5 x]) (show [0,0,0,0,0]=xq x r 0 by unfold xq;rfl))
    ·intro q
     have hi:=q.hi
     by_cases h4:q.i<5
     ·refine za ?_
      refine zp (Ix (5)) (fun k=>⟨[(0,.ptr 0 1 5 []),(1,.ptr 0 0 0 []),(4,.ptr 1 0 0 []),(8,.int q.i),(5,.int q.i),(11,.int k.i)],[.mk t [.arr64 5 r,.arr64 5 x],.mk 220 [.arr64 5 (xq x r (5*q.i+k.i))]]⟩) (fun k=>(5)-k.i) ⟨0,Nat.zero_le _⟩ [0,1] ?_ ?_
      ·exact zt
      ·intro k
       have hki:=k.hi
       have hl:=zbo x r (5*q.i+k.i)
       have hm:((q.i:Int)+(k.i:Int)).tmod 5=(((q.i+k.i)%5:Nat):Int):=by rw [Int.tmod_eq_emod_of_nonneg (by omega)];omega
       have hI:(((q.i:Int)+(k.i:Int)).tmod 5).toNat=(q.i+k.i)%5:=by omega
       by_cases h5:k.i<5
       ·have hat:=zza x r (i:=q.i) (k:=k.i) h5
        by_cases h6:5≤q.i+k.i
        ·unfold zs1 at hat
         rw [if_pos h6] at hat
         refine za ?_
         rw [hI]
         conv=>whnf
         refine ⟨⟨k.i+1,h5⟩,[0,1],by show (5)-(k.i+1)<(5)-k.i;omega,?_⟩
         repeat ((conv=>whnf);refine zb ?_)
         conv=>whnf
         exact zh (congrArg (fun x=>SV.agg [SV.arr64 5 x]) hat.symm)
        ·unfold zs1 at hat
         rw [if_neg h6] at hat
         refine za ?_
         rw [hI]
         conv=>whnf
         refine ⟨⟨k.i+1,h5⟩,[0,1],by show (5)-(k.i+1)<(5)-k.i;omega,?_⟩
         repeat ((conv=>whnf);refine zb ?_)
         conv=>whnf
         exact zh (congrArg (fun x=>SV.agg [SV.arr64 5 x]) hat.symm)
       ·have e5:k.i=5:=by omega
        rw [e5,show 5*q.i+5=5*(q.i+1) by omega]
        refine za ?_
        refine ⟨⟨q.i+1,h4⟩,[0,1],by show (5)-(q.i+1)<(5)-q.i;omega,?_⟩
        exact zt
     ·have e4:q.i=5:=by omega
      have hl:=zbo x r (5*5)
      have hcl:(car (xq x r (5*5))).length=5:=by rw [zdh];exact hl
      rw [e4]
      refine za ?_
      exact ze [0] h
   ·exact h.elim
def ybs:Spec:=fun args hp K=>match args,hp with
  | [.ptr 0 0 0 [],.sl 1 0 0 o n c],[.mk t0 [.arr64 5 r,.arr64 5 x],.mk t [.arr8 m l]]=>Pre (r.length=5∧x.length=5∧n≤16∧off o+n≤l.length) (K (.tup []) [.mk t0 [.arr64 5 r,.arr64 5 (zs5 r x ((l.drop (off o)).take n))],.mk t [.arr8 m l]])
  |_,_=>False
theorem yb5:zm prog 164 ybs:=by
  refine zk xa (zc z69 (zc z9t zg)) rfl func164 rfl call164 (D:=ygs) ?_ ?_
  ·intro args hp K h
   unfold ybs at h
   split at h
   ·exact Nat.le_of_ble_eq_true rfl
   ·exact h.elim
  ·intro args hp K h
   unfold ybs at h
   split at h
   ·rename_i o n c t0 r x t m l
    obtain ⟨⟨hr,hx,hn,hl⟩,h⟩:=zl h
    obtain ⟨y,hy⟩: ∃y,y=zdq ((l.drop (off o)).take n):=⟨_,rfl⟩
    have hyl:y.length=5:=by rw [hy];exact zcj _
    have hA:zs5 r x ((l.drop (off o)).take n)=zgs (zjl x y) r:=by unfold zs5;rw [hy]
    rw [hA] at h
    refine za ?_
    rw [←hy]
    refine zp (Ix (5)) (fun q=>⟨[(0,.ptr 0 0 0 []),(1,.sl 1 0 0 o n c),(4,.ptr 2 0 0 []),(8,.int q.i)],[.mk t0 [.arr64 5 r,.arr64 5 (ovr x 0 (fun i=>g64 x i+g64 y i) q.i)],.mk t [.arr8 m l],.mk 220 [.arr64 5 y]]⟩) (fun q=>(5)-q.i) ⟨0,Nat.zero_le _⟩ [0,1,2] ?_ ?_
    ·exact zt
    ·intro q
     have hi:=q.hi
     have hlo:=yc (l:=x) (a:=0) (i:=q.i) (by omega) (fun i=>g64 x i+g64 y i)
     by_cases h4:q.i<5
     ·refine za ?_
      refine ⟨⟨q.i+1,h4⟩,[0,1,2],by show (5)-(q.i+1)<(5)-q.i;omega,?_⟩
      repeat ((conv=>whnf);refine zb ?_)
      conv=>whnf
      refine zq (congrArg (fun z=>SV.agg [SV.arr64 5 r,SV.arr64 5 z]) (z8 (by omega) ?hv ?hkk)) ?_
      case hkk=>show q.i=0+q.i;omega
      case hv=>
        show g64 (ovr x 0 _ q.i) q.i+g64 y q.i=g64 x q.i+g64 y q.i
        unfold g64
        rw [yp (by omega) _ (by omega)]
      exact zt
     ·have e4:q.i=5:=by omega
      have hal:=zgx x y
      rw [e4,yy hx,show (List.range 5).map (fun i=>g64 x i+g64 y i)=zjl x y by unfold zjl;rfl]
      refine za ?_
      exact ze [0,1] h
   ·exact h.elim
end Go.Sym.Z

namespace Go.Sym.Z
open Go Go.Proofs.Tryz Go.Sym.Lp Go.Sym.Pol
set_option maxRecDepth 100000
attribute [local irreducible] zs5 car zaw zbt
def yer:List (Nat×List PStep):= []
def yeq:List (Nat×List PStep):= [(8,[⟨0,[]⟩,⟨1,[]⟩,⟨2,[]⟩,⟨3,[]⟩,⟨4,[0,1,2,3]⟩,⟨5,[0,1,2,3]⟩,⟨6,[0,1,2,3]⟩,⟨7,[0,1,2,3]⟩,⟨8,[]⟩,⟨9,[]⟩,⟨10,[]⟩])]
def ydm:List (Nat×List PStep):= [(12,[⟨0,[]⟩,⟨1,[0]⟩,⟨2,[0,1]⟩,⟨3,[0,1]⟩,⟨4,[0,1]⟩,⟨5,[0]⟩,⟨6,[0]⟩,⟨7,[0,1,2,3,4,5,6]⟩,⟨8,[0,1,2,3,4,5,6,7]⟩,⟨9,[0,1,2,3,4,5,6,7]⟩,⟨10,[0,1,2,3,4,5,6]⟩,⟨11,[0,1,2,3,4,5,6]⟩,⟨12,[0]⟩,⟨13,[]⟩,⟨14,[]⟩])]
structure Ps (n:Nat) where
  t:Nat
  x:Nat
  k:Nat
  c:Nat
  hn:k+16*t=n∨(k=0∧t=(n+15)/ 16)
  hx:0<k→x=16*t
  hc:k≤c
def yc0:Spec:=fun args hp K=>match args,hp with
  | [.ptr 0 0 0 [],.sl 1 0 0 [] n c],[.mk t0 [.arr64 5 r,.arr64 5 x],.mk t [.arr8 m l]]=>Pre (r.length=5∧x.length=5∧n≤l.length∧n≤c) (K (.tup []) [.mk t0 [.arr64 5 r,.arr64 5 (zcl r x (l.take n))],.mk t [.arr8 m l]])
  |_,_=>False
theorem ybu:zm prog 142 yc0:=by
  refine zk xa (zc yb5 zg) rfl func142 rfl call142 (D:=yer) ?_ ?_
  ·intro args hp K h
   unfold yc0 at h
   split at h
   ·exact Nat.le_of_ble_eq_true rfl
   ·exact h.elim
  ·intro args hp K h
   unfold yc0 at h
   split at h
   ·rename_i n c t0 r x t m l
    obtain ⟨⟨hr,hx,hl,hc⟩,h⟩:=zl h
    have hB:(l.take n).length=n:=by rw [List.length_take];omega
    refine za ?_
    refine zp (Option (Ps n)) (fun q=>match q with
      |none=>⟨[(0,.ptr 0 0 0 []),(1,.sl 1 0 0 [] n c)],[.mk t0 [.arr64 5 r,.arr64 5 x],.mk t [.arr8 m l]]⟩
      |some s=>⟨[(0,.ptr 0 0 0 []),(1,.sl 1 0 0 [(s.x,1)] s.k s.c)],[.mk t0 [.arr64 5 r,.arr64 5 (zbw r x (l.take n) s.t)],.mk t [.arr8 m l]]⟩)
      (fun q=>match q with|none=>n+1|some s=>s.k) none [0,1] ?_ ?_
    ·exact zt
    ·intro q
     cases q with
     |none=>
      by_cases h4:0<n
      ·have hmn:(min (n:Int) 16).toNat=min n 16:=by omega
       have hD:16*0=0:=rfl
       have hxl:=zez (r:=r) hx (l.take n) 0
       have hp4:r.length=5∧(zbw r x (l.take n) 0).length=5∧min n 16≤16∧off []+min n 16≤l.length:=⟨hr,hxl,by omega,by show 0+_≤_;omega⟩
       refine za ?_
       rw [hmn]
       refine za ?_
       rw [show (l.drop (off [])).take (min n 16)=((l.take n).drop (16*0)).take 16 by
        rw [yaf,show 16*0=0 by omega,show min 16 (n-0)=min n 16 by omega]
        rfl]
       refine ⟨some ⟨0+1,slO c (min n 16),n-min n 16,c-min n 16,by omega,fun h0=>by
         have hne:c≠min n 16:=by omega
         rw [xt hne];omega,by omega⟩,[0,1],by show n-min n 16<n+1;omega,?_⟩
       exact zt
      ·have e4:n=0:=by omega
       refine za ?_
       refine yv (hp':= [.mk t0 [.arr64 5 r,.arr64 5 (zcl r x (l.take n))],.mk t [.arr8 m l]]) [0,1] h ?_
       repeat ((conv=>whnf);refine zb ?_)
       conv=>whnf
       exact zh (congrArg (fun y=>SV.agg [SV.arr64 5 r,SV.arr64 5 y]) (show zbw r x (l.take n) 0=zcl r x (l.take n) by unfold zcl;rw [hB];congr 1;omega))
     |some s=>
      have hsn:=s.hn
      have hsx:=s.hx
      have hsc:=s.hc
      by_cases h4:0<s.k
      ·have hmn:(min (s.k:Int) 16).toNat=min s.k 16:=by omega
       have hX:=hsx h4
       have hxl:=zez (r:=r) hx (l.take n) s.t
       have hp4:r.length=5∧(zbw r x (l.take n) s.t).length=5∧min s.k 16≤16∧off [(s.x,1)]+min s.k 16≤l.length:=⟨hr,hxl,by omega,by show s.x+_≤_;omega⟩
       refine za ?_
       rw [hmn]
       refine za ?_
       rw [show (l.drop (off [(s.x,1)])).take (min s.k 16)=((l.take n).drop (16*s.t)).take 16 by
        rw [yaf,show 16*s.t=s.x by omega,show min 16 (n-s.x)=min s.k 16 by omega]
        rfl]
       refine ⟨some ⟨s.t+1,s.x+slO s.c (min s.k 16),s.k-min s.k 16,s.c-min s.k 16,by omega,fun h0=>by
         have hne:s.c≠min s.k 16:=by omega
         rw [xt hne];omega,by omega⟩,[0,1],by show s.k-min s.k 16<s.k;omega,?_⟩
       exact zt
      ·have e4:s.k=0:=by omega
       refine za ?_
       refine yv (hp':= [.mk t0 [.arr64 5 r,.arr64 5 (zcl r x (l.take n))],.mk t [.arr8 m l]]) [0,1] h ?_
       repeat ((conv=>whnf);refine zb ?_)
       conv=>whnf
       exact zh (congrArg (fun y=>SV.agg [SV.arr64 5 r,SV.arr64 5 y]) (show zbw r x (l.take n) s.t=zcl r x (l.take n) by unfold zcl;rw [hB];congr 1;omega))
   ·exact h.elim
def zxg:Spec:=fun args hp K=>match args,hp with
  | [.arr64 5 x],[]=>Pre (x.length=5) (K (.arr64 5 (zaw x)) [])
  |_,_=>False
theorem z8x:zm prog 165 zxg:=by
  refine zk xa (zc zy0 zg) rfl func165 rfl call165 (D:=yeq) ?_ ?_
  ·intro args hp K h
   unfold zxg at h
   split at h
   ·exact Nat.le_of_ble_eq_true rfl
   ·exact h.elim
  ·intro args hp K h
   unfold zxg at h
   split at h
   ·rename_i x
    obtain ⟨hx,h⟩:=zl h
    obtain ⟨y,hy⟩: ∃y,y=car (car x):=⟨_,rfl⟩
    have hxl:(car x).length=5:=by rw [zdh];exact hx
    have hyl:y.length=5:=by rw [hy,zdh,zdh];exact hx
    have hw:zaw x=if 0<(g64 (za8 y 4) 4>>>(26:UInt64)).toNat then (za8 y 4).set 4 (g64 (za8 y 4) 4&&&M26) else y:=by unfold zaw;rw [←hy]
    rw [hw] at h
    refine za ?_
    rw [←hy]
    refine za ?_
    refine zp (Ix (4)) (fun q=>⟨[(0,.arr64 5 x),(1,.ptr 0 0 0 []),(2,.ptr 1 0 0 []),(3,.ptr 2 0 0 []),(12,.int q.i)],[.mk 220 [.arr64 5 y],.mk 220 [.arr64 5 [0,0,0,0,0]],.mk 220 [.arr64 5 (za8 y q.i)]]⟩) (fun q=>(4)-q.i) ⟨0,Nat.zero_le _⟩ [0,1,2] ?_ ?_
    ·exact zt
    ·intro q
     have hi:=q.hi
     have hl:=zkn y q.i
     have hI:((q.i:Int)+1).toNat=q.i+1:=by omega
     have hJ:((q.i:Int)).toNat=q.i:=Int.toNat_natCast _
     by_cases h4:q.i<4
     ·refine za ?_
      refine ⟨⟨q.i+1,h4⟩,[0,1,2],by show (4)-(q.i+1)<(4)-q.i;omega,?_⟩
      exact zt
     ·have e4:q.i=4:=by omega
      rw [e4] at hl
      rw [e4]
      by_cases h5:0<(g64 (za8 y 4) 4>>>(26:UInt64)).toNat
      ·rw [if_pos h5] at h
       have hd:decide (UInt64.ofNat 0<g64 (za8 y 4) 4>>>(26:UInt64))=true:=decide_eq_true (by rw [UInt64.lt_iff_toNat_lt];exact h5)
       repeat ((conv=>whnf);first|refine zu ?_|refine zi ?_|refine zj ?_|refine zb ?_|refine zw (by first|exact hd) ?_|refine zo (by first|exact hd) ?_|refine zn (by first|exact hd) ?_)
       conv=>whnf
       exact ze [] h
      ·rw [if_neg h5] at h
       have hd:decide (UInt64.ofNat 0<g64 (za8 y 4) 4>>>(26:UInt64))=false:=decide_eq_false (by rw [UInt64.lt_iff_toNat_lt];exact h5)
       repeat ((conv=>whnf);first|refine zu ?_|refine zi ?_|refine zj ?_|refine zb ?_|refine zw (by first|exact hd) ?_|refine zo (by first|exact hd) ?_|refine zn (by first|exact hd) ?_)
       conv=>whnf
       exact ze [] h
   ·exact h.elim
def z55:Spec:=fun args hp K=>match args,hp with
  | [.ptr 0 0 0 [],.str key],[.mk t0 [.arr64 5 r,.arr64 5 x]]=>Pre (x.length=5∧key.length=32) (K (.str (zf3 x key)) [.mk t0 [.arr64 5 r,.arr64 5 x]])
  |_,_=>False
theorem ydf:zm prog 145 z55:=by
  refine zk xa (zc z8x zg) rfl func145 rfl call145 (D:=ydm) ?_ ?_
  ·intro args hp K h
   unfold z55 at h
   split at h
   ·exact Nat.le_of_ble_eq_true rfl
   ·exact h.elim
  ·intro args hp K h
   unfold z55 at h
   split at h
   ·rename_i key t0 r x
    obtain ⟨⟨hx,hk⟩,h⟩:=zl h
    have hwl:=z1e hx
    refine za ?_
    refine zp (Ix (16)) (fun q=>⟨[(0,.ptr 0 0 0 []),(1,.str key),(6,.u64 (zl0 (zaw x))),(7,.u64 (zfu (zaw x))),(8,.sl 2 0 0 [] 16 16),(9,.u64 (zbt (zl0 (zaw x)) (zfu (zaw x)) key q.i).2),(40,.int 16),(41,.int q.i)],[.mk t0 [.arr64 5 r,.arr64 5 x],.mk 220 [.arr64 5 (zaw x)],.mk 5 [.arr8 16 (zbt (zl0 (zaw x)) (zfu (zaw x)) key q.i).1]]⟩) (fun q=>(16)-q.i) ⟨0,Nat.zero_le _⟩ [0,1,2] ?_ ?_
    ·repeat ((conv=>whnf);refine zb ?_)
     conv=>whnf
     refine zq (by show _=SV.agg [SV.arr8 16 (zbt _ _ _ 0).1];rw [zyg];rfl) ?_
     repeat ((conv=>whnf);refine zb ?_)
     conv=>whnf
     exact zh (by show _=SV.u64 (zbt _ _ _ 0).2;rw [zyg];rfl)
    ·intro q
     have hi:=q.hi
     have hl:=zoc (zl0 (zaw x)) (zfu (zaw x)) key q.i
     have hm8:(q.i:Int).tmod 8=((q.i%8:Nat):Int):=by rw [Int.tmod_eq_emod_of_nonneg (by omega)];omega
     have hk8:(8*(q.i:Int).tmod 8).toNat=8*(q.i%8):=by omega
     have hI:((16:Int)+(q.i:Int)).toNat=16+q.i:=by omega
     by_cases h4:q.i<16
     ·by_cases h5:8≤q.i
      ·refine za ?_
       rw [hk8,hI]
       conv=>whnf
       refine ⟨⟨q.i+1,h4⟩,[0,1,2],by show (16)-(q.i+1)<(16)-q.i;omega,?_⟩
       repeat ((conv=>whnf);refine zb ?_)
       conv=>whnf
       refine zq (by show _=SV.agg [SV.arr8 16 (zbt _ _ _ (q.i+1)).1];rw [yae _ _ _ h5];rfl) ?_
       repeat ((conv=>whnf);refine zb ?_)
       conv=>whnf
       exact zh (by show _=SV.u64 (zbt _ _ _ (q.i+1)).2;rw [yae _ _ _ h5];rfl)
      ·refine za ?_
       rw [hk8,hI]
       conv=>whnf
       refine ⟨⟨q.i+1,h4⟩,[0,1,2],by show (16)-(q.i+1)<(16)-q.i;omega,?_⟩
       repeat ((conv=>whnf);refine zb ?_)
       conv=>whnf
       refine zq (by show _=SV.agg [SV.arr8 16 (zbt _ _ _ (q.i+1)).1];rw [yal _ _ _ h5];rfl) ?_
       repeat ((conv=>whnf);refine zb ?_)
       conv=>whnf
       exact zh (by show _=SV.u64 (zbt _ _ _ (q.i+1)).2;rw [yal _ _ _ h5];rfl)
     ·have e4:q.i=16:=by omega
      rw [e4] at hl
      have hT:List.take 16 (List.drop (off []) (zbt (zl0 (zaw x)) (zfu (zaw x)) key 16).1)=zf3 x key:=by unfold zf3;exact List.take_of_length_le (Nat.le_of_eq hl)
      rw [e4]
      refine za ?_
      rw [hT]
      conv=>whnf
      exact ze [0] h
   ·exact h.elim
end Go.Sym.Z
