/-
  Contracts of functions of the program, each said of symbolic values, and plain laws; no condition beyond each statement's own.
-/
import Derived.Test.YtmmpgjcpielefaaGreatGLStreamActs26
import Derived.Test.YtmmpgjcpielefaaGreatGLStreamActs23
import Derived.Test.YtmmpgjcpielefaaGreatGLStreamActs25
import Derived.Test.YtmmpgjcpielefaaGreatGLStreamActs18
import Derived.Test.YtmmpgjcpielefaaGreatGLStreamActs24
set_option linter.unusedSimpArgs false
set_option linter.unusedVariables false
namespace Go.Sym.Pol
open Go.Sym.Lp
theorem ydz {key:List UInt8} (h:16≤key.length): ∃a0 a1 a2 a3 a4 a5 a6 a7 a8 a9 b0 b1 b2 b3 b4 b5 t,key=a0 ::a1 ::a2 ::a3 ::a4 ::a5 ::a6 ::a7 ::a8 ::a9 ::b0 ::b1 ::b2 ::b3 ::b4 ::b5 ::t:=by
  match key,h with
  |a0 ::a1 ::a2 ::a3 ::a4 ::a5 ::a6 ::a7 ::a8 ::a9 ::b0 ::b1 ::b2 ::b3 ::b4 ::b5 ::t,_=>exact ⟨a0,a1,a2,a3,a4,a5,a6,a7,a8,a9,b0,b1,b2,b3,b4,b5,t,rfl⟩
theorem zd8 (a:UInt8):a&&&255=a:=by
  apply UInt8.toNat_inj.1
  rw [UInt8.toNat_and]
  show a.toNat&&&(2^8-1)=_
  rw [Nat.and_two_pow_sub_one_eq_mod]
  exact Nat.mod_eq_of_lt a.toNat_lt
theorem ygd {key:List UInt8} (h:16≤key.length): ∀i,i<16→(cC (cA (key.take 16) 4) 3).getD i 0=key.getD i 0&&&zwp.getD i 0:=by
  obtain ⟨a0,a1,a2,a3,a4,a5,a6,a7,a8,a9,b0,b1,b2,b3,b4,b5,t,rfl⟩:=ydz h
  have e:cC (cA (List.take 16 (a0 ::a1 ::a2 ::a3 ::a4 ::a5 ::a6 ::a7 ::a8 ::a9 ::b0 ::b1 ::b2 ::b3 ::b4 ::b5 ::t)) 4) 3= [a0,a1,a2,a3&&&15,a4&&&252,a5,a6,a7&&&15,a8&&&252,a9,b0,b1&&&15,b2&&&252,b3,b4,b5&&&15]:=rfl
  rw [e]
  intro i hi
  have hc:i=0∨i=1∨i=2∨i=3∨i=4∨i=5∨i=6∨i=7∨i=8∨i=9∨i=10∨i=11∨i=12∨i=13∨i=14∨i=15:=by omega
  rcases hc with rfl|rfl|rfl|rfl|rfl|rfl|rfl|rfl|rfl|rfl|rfl|rfl|rfl|rfl|rfl|rfl
  ·exact (zd8 _).symm
  ·exact (zd8 _).symm
  ·exact (zd8 _).symm
  ·rfl
  ·rfl
  ·exact (zd8 _).symm
  ·exact (zd8 _).symm
  ·rfl
  ·rfl
  ·exact (zd8 _).symm
  ·exact (zd8 _).symm
  ·rfl
  ·rfl
  ·exact (zd8 _).symm
  ·exact (zd8 _).symm
  ·rfl
theorem yhc {x:List UInt64} (h:x.length=5) {N:Nat} (hv:ws x=N+340282366920938463463374607431768211456) (hN:N<340282366920938463463374607431768211456) (hb: ∀l,l<5→(g64 x l).toNat<67108864):
    ws (x.set 4 (g64 x 4&&&UInt64.ofNat 16777215))=N∧ ∀l,l<5→(g64 (x.set 4 (g64 x 4&&&UInt64.ofNat 16777215)) l).toNat<67108864:=by
  obtain ⟨a,b,c,d,e,rfl⟩:=zeh h
  have ha:a.toNat<67108864:=hb 0 (by decide)
  have hb':b.toNat<67108864:=hb 1 (by decide)
  have hc:c.toNat<67108864:=hb 2 (by decide)
  have hd:d.toNat<67108864:=hb 3 (by decide)
  have he:e.toNat<67108864:=hb 4 (by decide)
  have hm:(e&&&UInt64.ofNat 16777215).toNat=e.toNat%16777216:=by
    rw [UInt64.toNat_and]
    show e.toNat&&&(2^24-1)=_
    rw [Nat.and_two_pow_sub_one_eq_mod]
  simp only [ws] at hv
  have es: [a,b,c,d,e].set 4 (g64 [a,b,c,d,e] 4&&&UInt64.ofNat 16777215)= [a,b,c,d,e&&&UInt64.ofNat 16777215]:=rfl
  rw [es]
  generalize e&&&UInt64.ofNat 16777215=f at*
  refine ⟨?_,?_⟩
  ·simp only [ws]
   omega
  ·intro i hi
   have:i=0∨i=1∨i=2∨i=3∨i=4:=by omega
   rcases this with rfl|rfl|rfl|rfl|rfl
   ·exact ha
   ·exact hb'
   ·exact hc
   ·exact hd
   ·show f.toNat<_;omega
theorem z4w {key:List UInt8} (h:16≤key.length):rOf key=xz (zan key) 128:=by
  have hl:(cC (cA (key.take 16) 4) 3).length=16:=by rw [zzn,zyo,List.length_take];omega
  have hm:=ygd h
  unfold rOf
  obtain ⟨b,hb⟩: ∃b,b=cC (cA (key.take 16) 4) 3:=⟨_,rfl⟩
  rw [←hb] at hl hm ⊢
  obtain ⟨v,bd⟩:=zrz (b:=b) (by omega)
  rw [hl] at v
  have hbits:zcp (zan key) (8*16)=leN b 16:=zir (b:=b) (n:=16) (by
    intro i k hi hk
    unfold zan
    rw [decide_eq_true_iff,show (8*i+k)/ 8=i by omega,show (8*i+k)%8=k by omega,hm i hi]
    exact yg2 _ hk) 16 (Nat.le_refl _)
  have hlt:=zvq (zan key) (8*16)
  rw [hbits] at hlt
  obtain ⟨v2,bd2⟩:=yhc (zcy b) (N:=leN b 16) v hlt bd
  obtain ⟨v3,bd3⟩:=zjw (zan key) 128 (by decide)
  refine z7k (by rw [List.length_set];exact zcy b) (zb5 _ _) bd2 (fun l hl=>Nat.lt_of_lt_of_le (bd3 l hl) (Nat.pow_le_pow_right (n:=2) (by decide) (Nat.min_le_left 26 _))) ?_
  rw [v2,v3]
  exact hbits.symm
end Go.Sym.Pol

namespace Go.Sym.Pol
open Go.Sym.Lp
theorem zr0 (r x:List UInt64) {A:List UInt8} (B:List UInt8): ∀t,16*t≤A.length→zcd r x (A++B) t=zcd r x A t
  |0,_=>rfl
  |t+1,h=>by
   simp only [zcd]
   rw [zr0 r x B t (by omega)]
   congr 1
   rw [List.drop_append_of_le_length (by omega),List.take_append_of_le_length (by rw [List.length_drop];omega)]
theorem zv9 (r x:List UInt64) {A:List UInt8} (B:List UInt8) {n:Nat} (hA:A.length=16*n): ∀t,zcd r x (A++B) (n+t)=zcd r (zcd r x A n) B t
  |0=>zr0 r x B n (by omega)
  |t+1=>by
   show zst r (zcd r x (A++B) (n+t)) (((A++B).drop (16*(n+t))).take 16)=zst r (zcd r (zcd r x A n) B t) ((B.drop (16*t)).take 16)
   rw [zv9 r x B hA t]
   congr 2
   rw [show 16*(n+t)=A.length+16*t by omega,List.drop_append]
   have h1:List.drop (A.length+16*t) A= []:=List.drop_eq_nil_of_le (by omega)
   rw [h1,List.nil_append]
   congr 1
   omega
theorem zvf (r x:List UInt64) {A:List UInt8} (B:List UInt8) {n:Nat} (hA:A.length=16*n):zct r (zct r x A) B=zct r x (A++B):=by
  unfold zct
  rw [List.length_append,show (A.length+15)/ 16=n by omega,show (A.length+B.length+15)/ 16=n+(B.length+15)/ 16 by omega]
  exact (zv9 r x B hA _).symm
def yfj (aad b:List UInt8):List UInt8:=aad++fillB aad.length++(b++fillB b.length)++zcn aad.length++zcn b.length
theorem z26 (r:List UInt64) (aad b:List UInt8):zsf r aad b=zct r [0,0,0,0,0] (yfj aad b):=by
  unfold zsf
  have hf:=zcc aad.length
  have h1:(aad++fillB aad.length).length=16*((aad.length+15)/ 16):=by rw [List.length_append,hf];omega
  have h2:(b.take (b.length-b.length%16)).length=16*(b.length/ 16):=by rw [List.length_take];omega
  rw [zvf r _ _ h1,zvf r _ _ (n:=(aad.length+15)/ 16+b.length/ 16) (by rw [List.length_append,h1,h2];omega)]
  congr 1
  unfold yfj
  simp only [List.append_assoc]
  rw [←List.append_assoc (b.take _) (b.drop _),List.take_append_drop]
end Go.Sym.Pol

namespace Go.Sym.Pol
open Go.Sym.Lp
abbrev Sm (x:List UInt64):Prop:= ∀i,i<5→(g64 x i).toNat<67108864
theorem yde {x:List UInt64} (h:x.length=5) (hb:Sm x):ws x<1361129467683753853853498429727072845824:=by
  obtain ⟨a,b,c,d,e,rfl⟩:=zeh h
  have ha:a.toNat<67108864:=hb 0 (by decide)
  have hb':b.toNat<67108864:=hb 1 (by decide)
  have hc:c.toNat<67108864:=hb 2 (by decide)
  have hd:d.toNat<67108864:=hb 3 (by decide)
  have he:e.toNat<67108864:=hb 4 (by decide)
  simp only [ws]
  omega
theorem z2l {a b c d e:UInt64} (hb:Sm [a,b,c,d,e]) {A B C D E:UInt64} (hA:A=a+5) (hB:B=b+A>>>(26:UInt64)) (hC:C=c+B>>>(26:UInt64)) (hD:D=d+C>>>(26:UInt64)) (hE:E=e+D>>>(26:UInt64)):
    ws [A&&&M26,B&&&M26,C&&&M26,D&&&M26,E&&&M26]+1361129467683753853853498429727072845824*(E>>>(26:UInt64)).toNat=ws [a,b,c,d,e]+5∧Sm [A&&&M26,B&&&M26,C&&&M26,D&&&M26,E&&&M26]:=by
  have ha:a.toNat<67108864:=hb 0 (by decide)
  have hb':b.toNat<67108864:=hb 1 (by decide)
  have hc:c.toNat<67108864:=hb 2 (by decide)
  have hd:d.toNat<67108864:=hb 3 (by decide)
  have he:e.toNat<67108864:=hb 4 (by decide)
  have f5:(5:UInt64).toNat=5:=rfl
  have e0:A.toNat=a.toNat+5:=by rw [hA,xn (by omega),f5]
  have s0:=zco A
  have e1:B.toNat=b.toNat+A.toNat/ 67108864:=by rw [hB,xn (by omega),s0]
  have s1:=zco B
  have e2:C.toNat=c.toNat+B.toNat/ 67108864:=by rw [hC,xn (by omega),s1]
  have s2:=zco C
  have e3:D.toNat=d.toNat+C.toNat/ 67108864:=by rw [hD,xn (by omega),s2]
  have s3:=zco D
  have e4:E.toNat=e.toNat+D.toNat/ 67108864:=by rw [hE,xn (by omega),s3]
  have s4:=zco E
  have n0:=zbl A
  have n1:=zbl B
  have n2:=zbl C
  have n3:=zbl D
  have n4:=zbl E
  refine ⟨?_,?_⟩
  ·simp only [ws]
   rw [n0,n1,n2,n3,n4,s4]
   omega
  ·intro i hi
   have:i=0∨i=1∨i=2∨i=3∨i=4:=by omega
   rcases this with rfl|rfl|rfl|rfl|rfl
   ·show (A&&&M26).toNat<_;omega
   ·show (B&&&M26).toNat<_;omega
   ·show (C&&&M26).toNat<_;omega
   ·show (D&&&M26).toNat<_;omega
   ·show (E&&&M26).toNat<_;omega
def zi5 (y:List UInt64):List UInt64:=if 0<(g64 (zbe y 4) 4>>>(26:UInt64)).toNat then (zbe y 4).set 4 (g64 (zbe y 4) 4&&&M26) else y
theorem z3c (x:List UInt64):za8 x=zi5 (car (car x)):=rfl
theorem z67 (a b c d e:UInt64):zbe [a,b,c,d,e] 4=
    (let A:=a+5;let B:=b+A>>>(26:UInt64);let C:=c+B>>>(26:UInt64);let D:=d+C>>>(26:UInt64);let E:=e+D>>>(26:UInt64)
     [A&&&M26,B&&&M26,C&&&M26,D&&&M26,E]):=rfl
theorem zn0 {y:List UInt64} (h:y.length=5) (hb:Sm y):ws (zi5 y)=ws y%pP∧Sm (zi5 y)∧(zi5 y).length=5:=by
  have hlt:=yde h hb
  obtain ⟨a,b,c,d,e,rfl⟩:=zeh h
  unfold zi5
  rw [z67]
  simp only
  obtain ⟨A,hA⟩: ∃A,A=a+5:=⟨_,rfl⟩
  rw [←hA]
  obtain ⟨B,hB⟩: ∃B,B=b+A>>>(26:UInt64):=⟨_,rfl⟩
  rw [←hB]
  obtain ⟨C,hC⟩: ∃C,C=c+B>>>(26:UInt64):=⟨_,rfl⟩
  rw [←hC]
  obtain ⟨D,hD⟩: ∃D,D=d+C>>>(26:UInt64):=⟨_,rfl⟩
  rw [←hD]
  obtain ⟨E,hE⟩: ∃E,E=e+D>>>(26:UInt64):=⟨_,rfl⟩
  rw [←hE]
  obtain ⟨v,s⟩:=z2l hb hA hB hC hD hE
  have h5:=yde (x:= [A&&&M26,B&&&M26,C&&&M26,D&&&M26,E&&&M26]) rfl s
  have hg:g64 [A&&&M26,B&&&M26,C&&&M26,D&&&M26,E] 4=E:=rfl
  rw [hg]
  unfold pP
  split
  ·rename_i h0
   have e1: [A&&&M26,B&&&M26,C&&&M26,D&&&M26,E].set 4 (E&&&M26)= [A&&&M26,B&&&M26,C&&&M26,D&&&M26,E&&&M26]:=rfl
   rw [e1]
   refine ⟨?_,s,rfl⟩
   omega
  ·rename_i h0
   refine ⟨?_,hb,rfl⟩
   omega
theorem zyp {x:List UInt64} (h:x.length=5):zgv x=zi5 (rcd (rcd x)):=by
  unfold zgv zi5
  have hl:(rcd (rcd x)).length=5:=by rw [zf1,zf1,h]
  obtain ⟨a,b,c,d,e,he⟩:=zeh hl
  rw [he]
  have e1:zc0 ([a,b,c,d,e].set 0 (g64 [a,b,c,d,e] 0+5)) 5=
    (let A:=a+5+0;let B:=b+A>>>(26:UInt64);let C:=c+B>>>(26:UInt64);let D:=d+C>>>(26:UInt64);let E:=e+D>>>(26:UInt64)
     ([A&&&M26,B&&&M26,C&&&M26,D&&&M26,E&&&M26],E>>>(26:UInt64))):=rfl
  have z:a+5+0=a+5:=UInt64.add_zero _
  rw [z] at e1
  rw [e1,z67]
  rfl
theorem z5w {x:List UInt64} (h:x.length=5) (h0:(g64 x 0).toNat<67108964) (hb: ∀i,0<i→i<5→(g64 x i).toNat<67108864):Sm (rcd x):=by
  obtain ⟨a,b,c,d,e,rfl⟩:=zeh h
  have ha:a.toNat<67108964:=h0
  have hb':b.toNat<67108864:=hb 1 (by decide) (by decide)
  have hc:c.toNat<67108864:=hb 2 (by decide) (by decide)
  have hd:d.toNat<67108864:=hb 3 (by decide) (by decide)
  have he:e.toNat<67108864:=hb 4 (by decide) (by decide)
  rw [z8p]
  simp only
  have z:a+0=a:=UInt64.add_zero _
  rw [z]
  have s0:=zco a
  have n0:=zbl a
  generalize a>>>(26:UInt64)=c0 at*
  generalize a&&&M26=a0 at*
  have e1:(b+c0).toNat=b.toNat+c0.toNat:=xn (by omega)
  generalize b+c0=b1 at*
  have s1:=zco b1
  have n1:=zbl b1
  generalize b1>>>(26:UInt64)=c1 at*
  have e2:(c+c1).toNat=c.toNat+c1.toNat:=xn (by omega)
  generalize c+c1=c' at*
  have s2:=zco c'
  have n2:=zbl c'
  generalize c'>>>(26:UInt64)=c2 at*
  have e3:(d+c2).toNat=d.toNat+c2.toNat:=xn (by omega)
  generalize d+c2=d' at*
  have s3:=zco d'
  have n3:=zbl d'
  generalize d'>>>(26:UInt64)=c3 at*
  have e4:(e+c3).toNat=e.toNat+c3.toNat:=xn (by omega)
  generalize e+c3=e' at*
  have s4:=zco e'
  have n4:=zbl e'
  generalize e'>>>(26:UInt64)=c4 at*
  have m5:(5*c4).toNat=5*c4.toNat:=z2h (by show 5*c4.toNat<_;omega)
  have e5:(a0+5*c4).toNat=a0.toNat+5*c4.toNat:=by rw [xn (by omega),m5]
  intro i hi
  have:i=0∨i=1∨i=2∨i=3∨i=4:=by omega
  rcases this with rfl|rfl|rfl|rfl|rfl
  ·show (a0+5*c4).toNat<_;omega
  ·show (b1&&&M26).toNat<_;omega
  ·show (c'&&&M26).toNat<_;omega
  ·show (d'&&&M26).toNat<_;omega
  ·show (e'&&&M26).toNat<_;omega
theorem z2s {x:List UInt64} (h:x.length=5) (hb: ∀i,i<5→(g64 x i).toNat<134217728):ws (za8 x)=ws x%pP∧Sm (za8 x)∧(za8 x).length=5:=by
  obtain ⟨k1,v1,l1,b1,t1⟩:=z1p h (fun i hi=>by have:=hb i hi;omega)
  rw [z3c]
  have hc1: ∃k,ws (car x)=ws (car (car x))+k*pP∧(car (car x)).length=5∧Sm (car (car x)):=by
    refine z5s l1 ?_ (b1 1 (by decide))
    intro i hi hi1
    obtain ⟨a,b,c,d,e,rfl⟩:=zeh h
    rw [zxb]
    have:i=0∨i=2∨i=3∨i=4:=by omega
    rcases this with rfl|rfl|rfl|rfl
    ·exact (zbl _).symm ▸ Nat.mod_lt _ (by decide)
    ·exact (zbl _).symm ▸ Nat.mod_lt _ (by decide)
    ·exact (zbl _).symm ▸ Nat.mod_lt _ (by decide)
    ·exact (zbl _).symm ▸ Nat.mod_lt _ (by decide)
  obtain ⟨k2,v2,l2,b2⟩:=hc1
  obtain ⟨v3,s3,l3⟩:=zn0 l2 b2
  refine ⟨?_,s3,l3⟩
  rw [v3,v1,v2,Nat.add_mul_mod_self_right,Nat.add_mul_mod_self_right]
theorem zxi {x:List UInt64} (h:x.length=5) (hb: ∀i,i<5→(g64 x i).toNat<134217728):ws (zgv x)=ws x%pP∧Sm (zgv x)∧(zgv x).length=5:=by
  obtain ⟨k1,v1,l1,a1,b1⟩:=zm0 h (B:=134217728) (by decide) (fun i hi=>Nat.le_of_lt (hb i hi))
  obtain ⟨k2,v2,l2,_,_⟩:=zm0 l1 (B:=134217728) (by decide) (fun i hi=>by
    by_cases h0:i=0
    ·rw [h0];omega
    ·have:=b1 i (by omega) hi;omega)
  have s2:=z5w l1 (by omega) b1
  rw [zyp h]
  obtain ⟨v3,s3,l3⟩:=zn0 l2 s2
  refine ⟨?_,s3,l3⟩
  rw [v3,v1,v2,Nat.add_mul_mod_self_right,Nat.add_mul_mod_self_right]
theorem zp9 {lo x up l k N:Nat} (hk:k<26) (hlo:lo<2^(26*l)) (hN:N=lo+2^(26*l)*(x+67108864*up)):N/ 2^(26*l+k)%2=x/ 2^k%2:=by
  have h1:N/ 2^(26*l)=x+67108864*up:=by
    rw [hN,Nat.add_mul_div_left _ _ (Nat.pow_pos (by decide)),Nat.div_eq_of_lt hlo,Nat.zero_add]
  have h2:67108864=2^k*(2*2^(25-k)):=by
    rw [show 2*2^(25-k)=2^(25-k+1) by rw [Nat.pow_succ,Nat.mul_comm],←Nat.pow_add,show k+(25-k+1)=26 by omega]
  rw [Nat.pow_add,←Nat.div_div_eq_div_mul,h1,h2,Nat.mul_assoc,Nat.add_mul_div_left _ _ (Nat.pow_pos (by decide)),Nat.mul_assoc,Nat.add_mul_mod_self_left]
theorem z8m {x:List UInt64} (h:x.length=5) (hb:Sm x) {j:Nat} (hj:j<130):zgo x j=ws x/ 2^j%2:=by
  obtain ⟨a,b,c,d,e,rfl⟩:=zeh h
  have ha:a.toNat<67108864:=hb 0 (by decide)
  have hb':b.toNat<67108864:=hb 1 (by decide)
  have hc:c.toNat<67108864:=hb 2 (by decide)
  have hd:d.toNat<67108864:=hb 3 (by decide)
  have he:e.toNat<67108864:=hb 4 (by decide)
  unfold zgo
  have hk:j%26<26:=Nat.mod_lt _ (by decide)
  have hjj:j=26*(j/ 26)+j%26:=(Nat.div_add_mod j 26).symm
  generalize j%26=k at*
  generalize j/ 26=l at*
  subst hjj
  have:l=0∨l=1∨l=2∨l=3∨l=4:=by omega
  symm
  rcases this with rfl|rfl|rfl|rfl|rfl
  ·exact zp9 (lo:=0) (x:=a.toNat) (up:=b.toNat+67108864*c.toNat+4503599627370496*d.toNat+302231454903657293676544*e.toNat) hk (by decide) (by simp only [ws];omega)
  ·exact zp9 (lo:=a.toNat) (x:=b.toNat) (up:=c.toNat+67108864*d.toNat+4503599627370496*e.toNat) hk (by omega) (by simp only [ws];omega)
  ·exact zp9 (lo:=a.toNat+67108864*b.toNat) (x:=c.toNat) (up:=d.toNat+67108864*e.toNat) hk (by omega) (by simp only [ws];omega)
  ·exact zp9 (lo:=a.toNat+67108864*b.toNat+4503599627370496*c.toNat) (x:=d.toNat) (up:=e.toNat) hk (by omega) (by simp only [ws];omega)
  ·exact zp9 (lo:=a.toNat+67108864*b.toNat+4503599627370496*c.toNat+302231454903657293676544*d.toNat) (x:=e.toNat) (up:=0) hk (by omega) (by simp only [ws];omega)
theorem z1z {x:List UInt64} (h:x.length=5) (hb:Sm x) {i:Nat} (hi:i<16): ∀k,k≤8→rbv x i k=ws x/ 2^(8*i)%2^k
  |0,_=>by rw [Nat.pow_zero,Nat.mod_one];rfl
  |k+1,hk=>by
   rw [zwl,rbv,z1z h hb hi k (by omega),z8m h hb (by omega),Nat.pow_add,Nat.div_div_eq_div_mul,Nat.mul_comm (2^k)]
theorem ycn {x:List UInt64} (h:x.length=5) (hb:Sm x):(zmq x).toNat=ws x%18446744073709551616∧(zgd x).toNat=ws x/ 18446744073709551616%18446744073709551616:=by
  obtain ⟨a,b,c,d,e,rfl⟩:=zeh h
  have ha:a.toNat<67108864:=hb 0 (by decide)
  have hb':b.toNat<67108864:=hb 1 (by decide)
  have hc:c.toNat<67108864:=hb 2 (by decide)
  have hd:d.toNat<67108864:=hb 3 (by decide)
  have he:e.toNat<67108864:=hb 4 (by decide)
  have orp: ∀(p q:UInt64) (k m:Nat),p.toNat<2^k→q.toNat=2^k*m→(p|||q).toNat=p.toNat+2^k*m:=by
    intro p q k m hp hq
    rw [UInt64.toNat_or,hq,Nat.or_comm,←Nat.two_pow_add_eq_or_of_lt hp,Nat.add_comm]
  have f1:(b<<<(26:UInt64)).toNat=67108864*b.toNat:=by
    rw [UInt64.toNat_shiftLeft,Nat.shiftLeft_eq];show b.toNat*67108864%18446744073709551616=_;omega
  have f2:(c<<<(52:UInt64)).toNat=4503599627370496*(c.toNat%4096):=by
    rw [UInt64.toNat_shiftLeft,Nat.shiftLeft_eq];show c.toNat*4503599627370496%18446744073709551616=_;omega
  have f3:(c>>>(12:UInt64)).toNat=c.toNat/ 4096:=zrm c (k:=12) (by decide)
  have f4:(d<<<(14:UInt64)).toNat=16384*d.toNat:=by
    rw [UInt64.toNat_shiftLeft,Nat.shiftLeft_eq];show d.toNat*16384%18446744073709551616=_;omega
  have f5:(e<<<(40:UInt64)).toNat=1099511627776*(e.toNat%16777216):=by
    rw [UInt64.toNat_shiftLeft,Nat.shiftLeft_eq];show e.toNat*1099511627776%18446744073709551616=_;omega
  have o1:(a|||b<<<(26:UInt64)).toNat=a.toNat+67108864*b.toNat:=orp _ _ 26 _ ha f1
  have o2:(a|||b<<<(26:UInt64)|||c<<<(52:UInt64)).toNat=a.toNat+67108864*b.toNat+4503599627370496*(c.toNat%4096):=by
    rw [orp _ _ 52 _ (by rw [o1];omega) f2,o1]
  have o3:(c>>>(12:UInt64)|||d<<<(14:UInt64)).toNat=c.toNat/ 4096+16384*d.toNat:=by
    rw [orp _ _ 14 _ (by rw [f3];omega) f4,f3]
  have o4:(c>>>(12:UInt64)|||d<<<(14:UInt64)|||e<<<(40:UInt64)).toNat=c.toNat/ 4096+16384*d.toNat+1099511627776*(e.toNat%16777216):=by
    rw [orp _ _ 40 _ (by rw [o3];omega) f5,o3]
  refine ⟨?_,?_⟩
  ·show (a|||b<<<(26:UInt64)|||c<<<(52:UInt64)).toNat=_
   rw [o2]
   simp only [ws]
   omega
  ·show (c>>>(12:UInt64)|||d<<<(14:UInt64)|||e<<<(40:UInt64)).toNat=_
   rw [o4]
   simp only [ws]
   omega
theorem yda {x:List UInt64} (h:x.length=5) (hb:Sm x) {i:Nat} (hi:i<16):((if 8≤i then zgd x else zmq x)>>>UInt64.ofNat (8*(i%8))&&&255).toNat=ws x/ 2^(8*i)%256:=by
  obtain ⟨hl,hh⟩:=ycn h hb
  have ha: ∀y:UInt64,(y&&&255).toNat=y.toNat%256:=by
    intro y
    rw [UInt64.toNat_and]
    show y.toNat&&&(2^8-1)=_
    rw [Nat.and_two_pow_sub_one_eq_mod]
  rw [ha,zrm _ (by omega)]
  generalize ws x=N at*
  have cut: ∀(M k:Nat),k≤56→M%18446744073709551616/ 2^k%256=M/ 2^k%256:=by
    intro M k hk
    have e:18446744073709551616=2^k*(256*2^(56-k)):=by
      rw [show 256*2^(56-k)=2^(8+(56-k)) by rw [Nat.pow_add],←Nat.pow_add,show k+(8+(56-k))=64 by omega]
    rw [e,Nat.mod_mul_right_div_self,Nat.mod_mul_right_mod]
  split
  ·rename_i h8
   rw [hh,cut _ _ (by omega),show 18446744073709551616=2^64 from rfl,Nat.div_div_eq_div_mul,←Nat.pow_add,show 64+8*(i%8)=8*i by omega]
  ·rename_i h8
   rw [hl,cut _ _ (by omega),show 8*(i%8)=8*i by omega]
theorem zw8 {x:List UInt64} (h:x.length=5) (hb:Sm x) (key:List UInt8): ∀i,i≤16→
    (zcb (zmq x) (zgd x) key i).1=(rts x (key.drop 16) i).1∧(zcb (zmq x) (zgd x) key i).2.toNat=(rts x (key.drop 16) i).2
  |0,_=>⟨rfl,rfl⟩
  |i+1,hi=>by
   obtain ⟨e1,e2⟩:=zw8 h hb key i (by omega)
   have hle:=ztr x (key.drop 16) i
   have hby:=yda h hb (i:=i) (by omega)
   have hr:=z1z h hb (i:=i) (by omega) 8 (Nat.le_refl _)
   have hk:(key.drop 16).getD i 0=key.getD (16+i) 0:=by
     rw [List.getD_eq_getElem?_getD,List.getElem?_drop,←List.getD_eq_getElem?_getD]
   have hkl:(key.getD (16+i) 0).toUInt64.toNat=(key.getD (16+i) 0).toNat:=rfl
   have hk2:=(key.getD (16+i) 0).toNat_lt
   simp only [zcb,rts]
   rw [hk]
   generalize (if 8≤i then zgd x else zmq x)>>>UInt64.ofNat (8*(i%8))&&&255=by1 at*
   have hb2:by1.toNat<256:=by omega
   have s1:(by1+(key.getD (16+i) 0).toUInt64).toNat=by1.toNat+(key.getD (16+i) 0).toNat:=by rw [xn (by omega),hkl]
   have s2:((zcb (zmq x) (zgd x) key i).2+(by1+(key.getD (16+i) 0).toUInt64)).toNat=(rts x (key.drop 16) i).2+rbv x i 8+(key.getD (16+i) 0).toNat:=by
     rw [xn (by omega),s1,e2,hby,hr]
     show _+(_%256+_)=_+_%256+_
     omega
   refine ⟨?_,?_⟩
   ·rw [e1]
    congr 1
    apply UInt8.toNat_inj.1
    rw [UInt64.toNat_toUInt8,s2,UInt8.toNat_ofNat']
   ·rw [show (8:UInt64)=UInt64.ofNat 8 from rfl,zrm _ (by decide),s2]
theorem z19 {key:List UInt8} (h:16≤key.length) (s:List UInt8):zf9 (zct (rOf key) [0,0,0,0,0] s) key=zii key s:=by
  rw [z4w h]
  unfold zct zii zqt zf9
  obtain ⟨e,b1,b2⟩:=z4p key s ((s.length+15)/ 16) (Nat.le_refl _)
  have z5:([0,0,0,0,0]:List UInt64).length=5:=rfl
  have l1:=ze0 (r:=xz (zan key) 128) z5 s ((s.length+15)/ 16)
  have l2:=zp5 key s ((s.length+15)/ 16)
  obtain ⟨v1,s1,q1⟩:=z2s l1 b1
  obtain ⟨v2,s2,q2⟩:=zxi l2 b2
  have hw:=z7k q1 q2 s1 s2 (by rw [v1,v2,e])
  rw [←hw]
  exact (zw8 q1 s1 key 16 (Nat.le_refl _)).1
theorem z6l {key:List UInt8} (h:16≤key.length) (aad b:List UInt8):zf9 (zsf (rOf key) aad b) key=zii key (yfj aad b):=by
  rw [z26]
  exact z19 h _
end Go.Sym.Pol

namespace Go.Sym.Z
open Go Go.Proofs.Tryz Go.Sym.Lp Go.Sym.Gcm Go.Sym.Aes Go.Sym.Pol Go.Sym.Cha
set_option maxRecDepth 100000
def ykt:List (Nat×List PStep):= []
def ylz:List (Nat×List PStep):= []
def yle:List (Nat×List PStep):= []
theorem zji (key nonce aad b:List UInt8):zdq key nonce aad b=yx key nonce aad b:=by
  unfold zdq yx
  have hl:((blk key nonce 0).take 32).length=32:=by rw [List.length_take,zfq];rfl
  exact (z6l (by omega) aad b).symm
theorem zq1 (key nonce aad s:List UInt8):zlq key nonce aad s=zay key nonce aad s:=by
  unfold zlq zay
  rw [zji]
attribute [local irreducible] zay yx zgf zew zft xt zlq zdq
theorem z8g: ∀args hp K,zy8 args hp K→zjv args hp K:=by
  intro args hp K h
  unfold zy8 at h
  unfold zjv
  split at h
  ·obtain ⟨h0,h⟩:=zq h
   try dsimp only
   rw [if_pos h0,zq1];exact h
  ·exact h.elim
theorem z4x: ∀args hp K,zy6 args hp K→zku args hp K:=by
  intro args hp K h
  unfold zy6 at h
  unfold zku
  split at h
  ·obtain ⟨h0,h⟩:=zq h
   obtain ⟨ht,hn⟩:=z8 h
   try dsimp only
   refine zr (by omega) ?_
   rw [zji]
   split
   ·rename_i hc;exact ht (decide_eq_true hc.2)
   ·rename_i hc;exact hn (decide_eq_false fun hh=>hc ⟨h0,hh⟩)
  ·exact h.elim
theorem z2p:zp prog 55 zy8:=zsj z75 z8g
theorem z3q:zp prog 56 zx6:=zsj z59 ya1
theorem z3t:zp prog 98 zy6:=zsj z98 z4x
theorem z2j:zp prog 99 zxh:=zsj z7n ybk
theorem zkv:zp prog 53 zlo:=by
  refine zm y5 zi rfl func53 rfl call53 (D:=ykt) ?_ ?_
  ·intro args hp K h
   unfold zlo at h
   split at h
   ·exact Nat.le_of_ble_eq_true rfl
   ·exact h.elim
  ·intro args hp K h
   unfold zlo at h
   split at h
   ·rename_i w
    obtain ⟨ht,hn⟩:=z8 h
    by_cases h1:w=4865
    ·have h:=ht (decide_eq_true h1)
     refine za ?_
     exact zf [] h
    ·have h:=hn (decide_eq_false h1)
     obtain ⟨ht,hn⟩:=z8 h
     by_cases h2:w=4866
     ·have h:=ht (decide_eq_true h2)
      refine za ?_
      exact zf [] h
     ·have h:=hn (decide_eq_false h2)
      obtain ⟨ht,hn⟩:=z8 h
      by_cases h3:w=4867
      ·have h:=ht (decide_eq_true h3)
       refine za ?_
       exact zf [] h
      ·have h:=hn (decide_eq_false h3)
       refine za ?_
       exact zf [] h
   ·exact h.elim
set_option maxHeartbeats 4000000 in
theorem z8o:zp prog 27 zzu:=by
  refine zm y5 (zd zkv (zd z2p (zd z3q zi))) rfl func27 rfl call27 (D:=ylz) ?_ ?_
  ·intro args hp K h
   unfold zzu at h
   split at h
   ·exact Nat.le_of_ble_eq_true rfl
   ·exact h.elim
  ·intro args hp K h
   unfold zzu at h
   split at h
   ·rename_i w key nonce aad s
    obtain ⟨ht,hn⟩:=z8 h
    have four:w=4865∨w=4866∨w=4867∨(w≠4865∧w≠4866∧w≠4867):=by omega
    by_cases h0:zdw w key.length∧nonce.length=12∧aad.length≤65536∧(s.length:Int)≤65536
    ·have h:=ht (decide_eq_true h0)
     have hd:=decide_eq_true h0
     obtain ⟨hk,h1,h2,h3⟩:=h0
     unfold zdw at hk
     unfold y6 at h
     by_cases h4:w=4867
     ·rw [if_pos h4] at h
      have hpp:key.length=32∧nonce.length=12∧aad.length≤65536∧(s.length:Int)≤65536:=⟨by omega,h1,h2,h3⟩
      repeat ((conv=>whnf);first|refine zu ?_|refine zg ?_|refine zh ?_|refine zb ?_|refine zr (by first|exact hd|(rw [hd];rfl)) ?_|refine zj (by first|exact hd|(rw [hd];rfl)) ?_|refine zk (by first|exact hd|(rw [hd];rfl)) ?_)
      conv=>whnf
      exact zf [] h
     ·rw [if_neg h4] at h
      have hpp:(key.length=16∨key.length=32)∧nonce.length=12∧aad.length≤65536∧(s.length:Int)≤65536:=⟨by omega,h1,h2,h3⟩
      rcases hk with ⟨g0,g1⟩|⟨g0,g1⟩|⟨g0,g1⟩
      ·refine za ?_
       exact zf [] h
      ·refine za ?_
       exact zf [] h
      ·exact absurd g0 h4
    ·have h:=hn (decide_eq_false h0)
     rcases four with h1|h1|h1|⟨h1,h2,h3⟩
     ·by_cases g1:key.length=16
      ·by_cases g2:nonce.length=12
       ·by_cases g3:aad.length≤65536
        ·have g4: ¬(s.length:Int)≤65536:=fun g=>h0 ⟨.inl ⟨h1,g1⟩,g2,g3,g⟩
         refine za ?_
         exact zf [] h
        ·refine za ?_
         exact zf [] h
       ·refine za ?_
        exact zf [] h
      ·refine za ?_
       exact zf [] h
     ·by_cases g1:key.length=32
      ·by_cases g2:nonce.length=12
       ·by_cases g3:aad.length≤65536
        ·have g4: ¬(s.length:Int)≤65536:=fun g=>h0 ⟨.inr (.inl ⟨h1,g1⟩),g2,g3,g⟩
         refine za ?_
         exact zf [] h
        ·refine za ?_
         exact zf [] h
       ·refine za ?_
        exact zf [] h
      ·refine za ?_
       exact zf [] h
     ·by_cases g1:key.length=32
      ·by_cases g2:nonce.length=12
       ·by_cases g3:aad.length≤65536
        ·have g4: ¬(s.length:Int)≤65536:=fun g=>h0 ⟨.inr (.inr ⟨h1,g1⟩),g2,g3,g⟩
         refine za ?_
         exact zf [] h
        ·refine za ?_
         exact zf [] h
       ·refine za ?_
        exact zf [] h
      ·refine za ?_
       exact zf [] h
     ·refine za ?_
      exact zf [] h
   ·exact h.elim
set_option maxHeartbeats 4000000 in
theorem z40:zp prog 71 zyx:=by
  refine zm y5 (zd zkv (zd z3t (zd z2j zi))) rfl func71 rfl call71 (D:=yle) ?_ ?_
  ·intro args hp K h
   unfold zyx at h
   split at h
   ·exact Nat.le_of_ble_eq_true rfl
   ·exact h.elim
  ·intro args hp K h
   unfold zyx at h
   split at h
   ·rename_i w key nonce aad s
    obtain ⟨hs63,h⟩:=zq h
    obtain ⟨ht0,hn0⟩:=z8 h
    have four:w=4865∨w=4866∨w=4867∨(w≠4865∧w≠4866∧w≠4867):=by omega
    by_cases h0:zdw w key.length∧nonce.length=12∧aad.length≤65536∧(s.length:Int)-16≤65536
    ·have h:=ht0 (decide_eq_true h0)
     have hd:=decide_eq_true h0
     obtain ⟨hk,h1,h2,h3⟩:=h0
     unfold zdw at hk
     unfold xq y3 at h
     by_cases h4:w=4867
     ·rw [if_pos h4,if_pos h4] at h
      obtain ⟨ht,hn⟩:=z8 h
      have hpp:key.length=32∧nonce.length=12∧aad.length≤65536∧(s.length:Int)-16≤65536:=⟨by omega,h1,h2,h3⟩
      by_cases hq:16≤s.length∧yx key nonce aad (s.take (s.length-16))=s.drop (s.length-16)
      ·have h:=ht (decide_eq_true hq)
       have hdq:=decide_eq_true hq
       repeat ((conv=>whnf);first|refine zu ?_|refine zg ?_|refine zh ?_|refine zb ?_|refine zr (by first|exact hd|(rw [hd];rfl)|exact hdq) ?_|refine zj (by first|exact hd|(rw [hd];rfl)|exact hdq) ?_|refine zk (by first|exact hd|(rw [hd];rfl)|exact hdq) ?_)
       conv=>whnf
       exact zf [] h
      ·have h:=hn (decide_eq_false hq)
       have hdq:=decide_eq_false hq
       repeat ((conv=>whnf);first|refine zu ?_|refine zg ?_|refine zh ?_|refine zb ?_|refine zr (by first|exact hd|(rw [hd];rfl)|exact hdq) ?_|refine zj (by first|exact hd|(rw [hd];rfl)|exact hdq) ?_|refine zk (by first|exact hd|(rw [hd];rfl)|exact hdq) ?_)
       conv=>whnf
       exact zf [] h
     ·rw [if_neg h4,if_neg h4] at h
      obtain ⟨ht,hn⟩:=z8 h
      rcases hk with ⟨g0,g1⟩|⟨g0,g1⟩|⟨g0,g1⟩
      ·have hpp:(key.length=16∨key.length=32)∧nonce.length=12∧aad.length≤65536∧(s.length:Int)-16≤65536:=⟨by omega,h1,h2,h3⟩
       by_cases hq:16≤s.length∧zew key nonce aad (s.take (s.length-16))=s.drop (s.length-16)
       ·have h:=ht (decide_eq_true hq)
        have hdq:=decide_eq_true hq
        repeat ((conv=>whnf);first|refine zu ?_|refine zg ?_|refine zh ?_|refine zb ?_|refine zr (by first|exact hd|(rw [hd];rfl)|exact hdq) ?_|refine zj (by first|exact hd|(rw [hd];rfl)|exact hdq) ?_|refine zk (by first|exact hd|(rw [hd];rfl)|exact hdq) ?_)
        conv=>whnf
        exact zf [] h
       ·have h:=hn (decide_eq_false hq)
        have hdq:=decide_eq_false hq
        repeat ((conv=>whnf);first|refine zu ?_|refine zg ?_|refine zh ?_|refine zb ?_|refine zr (by first|exact hd|(rw [hd];rfl)|exact hdq) ?_|refine zj (by first|exact hd|(rw [hd];rfl)|exact hdq) ?_|refine zk (by first|exact hd|(rw [hd];rfl)|exact hdq) ?_)
        conv=>whnf
        exact zf [] h
      ·have hpp:(key.length=16∨key.length=32)∧nonce.length=12∧aad.length≤65536∧(s.length:Int)-16≤65536:=⟨by omega,h1,h2,h3⟩
       by_cases hq:16≤s.length∧zew key nonce aad (s.take (s.length-16))=s.drop (s.length-16)
       ·have h:=ht (decide_eq_true hq)
        have hdq:=decide_eq_true hq
        repeat ((conv=>whnf);first|refine zu ?_|refine zg ?_|refine zh ?_|refine zb ?_|refine zr (by first|exact hd|(rw [hd];rfl)|exact hdq) ?_|refine zj (by first|exact hd|(rw [hd];rfl)|exact hdq) ?_|refine zk (by first|exact hd|(rw [hd];rfl)|exact hdq) ?_)
        conv=>whnf
        exact zf [] h
       ·have h:=hn (decide_eq_false hq)
        have hdq:=decide_eq_false hq
        repeat ((conv=>whnf);first|refine zu ?_|refine zg ?_|refine zh ?_|refine zb ?_|refine zr (by first|exact hd|(rw [hd];rfl)|exact hdq) ?_|refine zj (by first|exact hd|(rw [hd];rfl)|exact hdq) ?_|refine zk (by first|exact hd|(rw [hd];rfl)|exact hdq) ?_)
        conv=>whnf
        exact zf [] h
      ·exact absurd g0 h4
    ·have h:=hn0 (decide_eq_false h0)
     rcases four with h1|h1|h1|⟨h1,h2,h3⟩
     ·by_cases g1:key.length=16
      ·by_cases g2:nonce.length=12
       ·by_cases g3:aad.length≤65536
        ·have g4: ¬(s.length:Int)-16≤65536:=fun g=>h0 ⟨.inl ⟨h1,g1⟩,g2,g3,g⟩
         refine za ?_
         exact zf [] h
        ·refine za ?_
         exact zf [] h
       ·refine za ?_
        exact zf [] h
      ·refine za ?_
       exact zf [] h
     ·by_cases g1:key.length=32
      ·by_cases g2:nonce.length=12
       ·by_cases g3:aad.length≤65536
        ·have g4: ¬(s.length:Int)-16≤65536:=fun g=>h0 ⟨.inr (.inl ⟨h1,g1⟩),g2,g3,g⟩
         refine za ?_
         exact zf [] h
        ·refine za ?_
         exact zf [] h
       ·refine za ?_
        exact zf [] h
      ·refine za ?_
       exact zf [] h
     ·by_cases g1:key.length=32
      ·by_cases g2:nonce.length=12
       ·by_cases g3:aad.length≤65536
        ·have g4: ¬(s.length:Int)-16≤65536:=fun g=>h0 ⟨.inr (.inr ⟨h1,g1⟩),g2,g3,g⟩
         refine za ?_
         exact zf [] h
        ·refine za ?_
         exact zf [] h
       ·refine za ?_
        exact zf [] h
      ·refine za ?_
       exact zf [] h
     ·refine za ?_
      exact zf [] h
   ·exact h.elim
end Go.Sym.Z

namespace Go.Sym.Z
open Go Go.Proofs.Tryz Go.Sym.Lp Go.Sym.Cha Go.Sym.Sha Go.Sym.Hk Go.Sym.Gcm
set_option maxRecDepth 100000
def yj3:List (Nat×List PStep):= []
def yi4:List (Nat×List PStep):= []
def ylu:List (Nat×List PStep):= []
def ym2:List (Nat×List PStep):= []
def ymx:List (Nat×List PStep):= []
def yk2:List (Nat×List PStep):= []
def ylo:List (Nat×List PStep):= []
def yla:List (Nat×TyI):= [(3,ty3),(4,ty4),(5,ty5),(9,ty9),(48,zd6),(51,zeb),(113,xw),(99,xj),(76,zvd)]
theorem zfr: ∀t i,y8 yla t=some i→yt prog t i:=(zc zbg (zc zbj (zc zbc (zc zbf (zc zaq (zc zap (zc zai (zc za6 (zc z11 x1)))))))))
attribute [local irreducible] zqg xx
set_option maxHeartbeats 4000000 in
theorem z3r:zp prog 100 zh1:=by
  refine zm zfr (zd yel (zd ykk zi)) rfl func100 rfl call100 (D:=yj3) ?_ ?_
  ·intro args hp K h
   unfold zh1 at h
   split at h
   ·exact Nat.le_of_ble_eq_true rfl
   ·exact h.elim
  ·intro args hp K h
   unfold zh1 at h
   split at h
   ·rename_i n key info size
    obtain ⟨⟨hn,hk,hi,hs0,hs⟩,h⟩:=zq h
    obtain ⟨z,rfl⟩:=Int.eq_ofNat_of_zero_le hs0
    rw [Int.toNat_natCast] at h
    have hd:=decide_eq_true hn
    have h8:(8:Int)≠0∧ya ((255*n).tdiv 8):=by rcases hn with rfl|rfl<;>exact ⟨by decide,by unfold ya;decide⟩
    have hmx:8160≤(255*n).tdiv 8:=by rcases hn with rfl|rfl<;>decide
    have hfit:ya (255*n):=by rcases hn with rfl|rfl<;>(unfold ya;decide)
    repeat ((conv=>whnf);first|refine zu ?_|refine zg ?_|refine zh ?_|refine zb ?_|refine zr (by first|(rw [hd];rfl)) ?_|refine zj (by first|(rw [hd];rfl)) ?_|refine zk (by first|(rw [hd];rfl)) ?_)
    conv=>whnf
    obtain ⟨d,hdl,hd0⟩: ∃d,dl n=d∧(d=32∨d=48):=⟨_,rfl,by unfold dl;split<;>simp⟩
    have hF:exF n key info z=(xx n key info ((z+d-1)/ d)).1.take z:=by unfold exF;rw [hdl]
    rw [hF] at h
    have hN: ∀i,i<(z+d-1)/ d↔d*i<z:=by
      intro i;rcases hd0 with rfl|rfl<;>omega
    have hN2:z≤d*((z+d-1)/ d):=by rcases hd0 with rfl|rfl<;>omega
    obtain ⟨N,hNN⟩: ∃N,N=(z+d-1)/ d:=⟨_,rfl⟩
    rw [←hNN] at h hN hN2
    have hdd:d≤48:=by omega
    have hNb:N≤1000:=by rw [hNN];rcases hd0 with rfl|rfl<;>omega
    clear hd0 hF hNN
    refine zt (Ix (N)) (fun q=>⟨[(0,.int n),(1,.str key),(2,.str info),(3,.int z),(10,.str (xx n key info q.i).1),(11,.str (xx n key info q.i).2),(12,.int ((q.i:Int)+1))],[]⟩) (fun q=>(N)-q.i) ⟨0,Nat.zero_le _⟩ [] ?_ ?_
    ·repeat ((conv=>whnf);refine zb ?_)
     conv=>whnf
     refine zv (congrArg (fun x:List UInt8×List UInt8=>SV.str x.1) (show (([],[]):List UInt8×List UInt8)=xx n key info 0 by unfold xx;rfl)) ?_
     repeat ((conv=>whnf);refine zb ?_)
     conv=>whnf
     exact zo (congrArg (fun x:List UInt8×List UInt8=>SV.str x.2) (show (([],[]):List UInt8×List UInt8)=xx n key info 0 by unfold xx;rfl))
    ·intro q
     have hqi:=q.hi
     obtain ⟨hel,hel2⟩:=zjf hn key info q.i
     rw [hdl] at hel
     have hdq:d*q.i≤48*1000:=Nat.mul_le_mul hdd (by omega)
     by_cases h4:q.i<N
     ·have hlt:=(hN q.i).1 h4
      have hml:=zwf hn key ((xx n key info q.i).2++info++List.take 1 (List.drop (off []) ((List.replicate 1 0).set (off [(0,ty5.sz)]) (UInt8.ofInt ((q.i:Int)+1)))))
      have hXl:((xx n key info q.i).2++info++List.take 1 (List.drop (off []) ((List.replicate 1 0).set (off [(0,ty5.sz)]) (UInt8.ofInt ((q.i:Int)+1))))).length≤140737488351232:=by rw [zex,List.length_append,List.length_append];show _+_+1≤_;omega
      have hpm:(n=256∨n=384)∧key.length≤140737488351232∧((xx n key info q.i).2++info++List.take 1 (List.drop (off []) ((List.replicate 1 0).set (off [(0,ty5.sz)]) (UInt8.ofInt ((q.i:Int)+1))))).length≤140737488351232:=⟨hn,hk,hXl⟩
      rw [hdl] at hml
      have hE1:(xx n key info q.i).1++zqg n key ((xx n key info q.i).2++info++List.take 1 (List.drop (off []) ((List.replicate 1 0).set (off [(0,ty5.sz)]) (UInt8.ofInt ((q.i:Int)+1)))))=(xx n key info (q.i+1)).1:=by simp only [xx];rw [zex]
      have hE2:zqg n key ((xx n key info q.i).2++info++List.take 1 (List.drop (off []) ((List.replicate 1 0).set (off [(0,ty5.sz)]) (UInt8.ofInt ((q.i:Int)+1)))))=(xx n key info (q.i+1)).2:=by simp only [xx];rw [zex]
      refine za ?_
      conv=>whnf
      refine ⟨⟨q.i+1,h4⟩,[],by show (N)-(q.i+1)<(N)-q.i;omega,?_⟩
      repeat ((conv=>whnf);refine zb ?_)
      conv=>whnf
      refine zv (congrArg SV.str hE1) ?_
      repeat ((conv=>whnf);refine zb ?_)
      conv=>whnf
      exact zo (congrArg SV.str hE2)
     ·have e4:q.i=N:=by omega
      have hge: ¬d*q.i<z:=fun hh=>h4 ((hN q.i).2 hh)
      rw [←e4] at h
      refine za ?_
      exact zf [] h
   ·exact h.elim
theorem ymb (x:Int):beB x (Int.toNat 1)= [UInt8.ofInt x]:=by
  show [UInt8.ofInt (x/ 2^0)]=_;rw [Int.pow_zero,Int.ediv_one]
theorem ye4 (x:Int):beB x (Int.toNat 2)= [UInt8.ofInt (x/ 2^8),UInt8.ofInt x]:=by
  show [UInt8.ofInt (x/ 2^8),UInt8.ofInt (x/ 2^0)]=_;rw [Int.pow_zero,Int.ediv_one]
def vS:Spec:=fun args hp K=>match args,hp with
  | [.str s,.int k],[]=>Pre (k=1∧s.length≤255) (K (.str (UInt8.ofInt (s.length:Int) ::s)) [])
  |_,_=>False
theorem v_s:zp prog 101 vS:=by
  refine zm zfr (zd zvg zi) rfl func101 rfl call101 (D:=yi4) ?_ ?_
  ·intro args hp K h
   unfold vS at h
   split at h
   ·exact Nat.le_of_ble_eq_true rfl
   ·exact h.elim
  ·intro args hp K h
   unfold vS at h
   split at h
   ·rename_i s k
    obtain ⟨⟨hk1,hs⟩,hK⟩:=zq h
    clear h
    subst hk1
    have h:=hK
    have hl:=zam (s.length:Int) (Int.toNat 1)
    refine za ?_
    rw [ymb]
    conv=>whnf
    exact zf [] h
   ·exact h.elim
attribute [local irreducible] exF
theorem z84:zp prog 73 zk7:=by
  refine zm zfr (zd zvg (zd v_s (zd z3r zi))) rfl func73 rfl call73 (D:=ylu) ?_ ?_
  ·intro args hp K h
   unfold zk7 at h
   split at h
   ·exact Nat.le_of_ble_eq_true rfl
   ·exact h.elim
  ·intro args hp K h
   unfold zk7 at h
   split at h
   ·rename_i n key label ctx size
    obtain ⟨⟨hn,hk,hl,hc,hs0,hs⟩,h⟩:=zq h
    obtain ⟨z,rfl⟩:=Int.eq_ofNat_of_zero_le hs0
    rw [Int.toNat_natCast] at h
    have hIl:([UInt8.ofInt ((z:Int)/ 2^8),UInt8.ofInt (z:Int)]++(UInt8.ofInt ((([116,108,115,49,51,32]++label:List UInt8).length:Nat):Int) ::([116,108,115,49,51,32]++label))++(UInt8.ofInt (ctx.length:Int) ::ctx)).length≤1000:=by simp only [List.length_append,List.length_cons,List.length_nil];omega
    have hpx:(n=256∨n=384)∧key.length≤140737488351232∧([UInt8.ofInt ((z:Int)/ 2^8),UInt8.ofInt (z:Int)]++(UInt8.ofInt ((([116,108,115,49,51,32]++label:List UInt8).length:Nat):Int) ::([116,108,115,49,51,32]++label))++(UInt8.ofInt (ctx.length:Int) ::ctx)).length≤1000∧0≤(z:Int)∧(z:Int)≤1000:=⟨hn,hk,hIl,hs0,hs⟩
    unfold x3 at h
    have hll:(([116,108,115,49,51,32]++label:List UInt8)).length≤255:=by simp only [List.length_append,List.length_cons,List.length_nil];omega
    refine za ?_
    rw [ye4]
    refine za ?_
    conv=>whnf
    exact zf [] h
   ·exact h.elim
theorem ycw:zp prog 72 zrw:=by
  refine zm zfr (zd zkv zi) rfl func72 rfl call72 (D:=ym2) ?_ ?_
  ·intro args hp K h
   unfold zrw at h
   split at h
   ·exact Nat.le_of_ble_eq_true rfl
   ·exact h.elim
  ·intro args hp K h
   unfold zrw at h
   split at h
   ·rename_i w
    obtain ⟨ht,hf⟩:=z8 h
    have four:w=4865∨w=4866∨w=4867∨(w≠4865∧w≠4866∧w≠4867):=by omega
    rcases four with h0|h0|h0|⟨h0,h1,h2⟩
    ·have h:=ht (decide_eq_true (.inl h0))
     rw [show hB w=256 by unfold hB;rw [if_neg (by omega)]] at h
     refine za ?_
     exact zf [] h
    ·have h:=ht (decide_eq_true (.inr (.inl h0)))
     rw [show hB w=384 by unfold hB;rw [if_pos h0]] at h
     refine za ?_
     exact zf [] h
    ·have h:=ht (decide_eq_true (.inr (.inr h0)))
     rw [show hB w=256 by unfold hB;rw [if_neg (by omega)]] at h
     refine za ?_
     exact zf [] h
    ·have h:=hf (decide_eq_false (by unfold su;omega))
     refine za ?_
     exact zf [] h
   ·exact h.elim
attribute [local irreducible] x3
theorem z3i:zp prog 54 zhl:=by
  refine zm zfr (zd ycw (zd z84 zi)) rfl func54 rfl call54 (D:=ymx) ?_ ?_
  ·intro args hp K h
   unfold zhl at h
   split at h
   ·exact Nat.le_of_ble_eq_true rfl
   ·exact h.elim
  ·intro args hp K h
   unfold zhl at h
   split at h
   ·rename_i w key label ctx size
    obtain ⟨⟨hk,hl,hc,hs0,hs⟩,h⟩:=zq h
    obtain ⟨ht,hf⟩:=z8 h
    have hp:(hB w=256∨hB w=384)∧key.length≤140737488351232∧label.length≤100∧ctx.length≤255∧0≤size∧size≤1000:=⟨z07 w,hk,hl,hc,hs0,hs⟩
    generalize e:decide (su w)=c at ht hf
    cases c
    ·have h:=hf rfl
     refine za ?_
     exact zf [] h
    ·have h:=ht rfl
     refine za ?_
     exact zf [] h
   ·exact h.elim
theorem ybe:zp prog 26 zr1:=by
  refine zm zfr (zd zkv (zd z3i zi)) rfl func26 rfl call26 (D:=yk2) ?_ ?_
  ·intro args hp K h
   unfold zr1 at h
   split at h
   ·exact Nat.le_of_ble_eq_true rfl
   ·exact h.elim
  ·intro args hp K h
   unfold zr1 at h
   split at h
   ·rename_i w s
    obtain ⟨hs,h⟩:=zq h
    obtain ⟨ht,hf⟩:=z8 h
    have four:w=4865∨w=4866∨w=4867∨(w≠4865∧w≠4866∧w≠4867):=by omega
    rcases four with h0|h0|h0|⟨h0,h1,h2⟩
    ·have hd:decide (su w)=true:=decide_eq_true (.inl h0)
     have h:=ht hd
     rw [show kyF w s=x3 (hB w) s [107,101,121] [] (Int.toNat 16) by unfold kyF aSz;rw [if_pos h0];rfl,show ivF w s=x3 (hB w) s [105,118] [] (Int.toNat 12) by unfold ivF;rfl] at h
     refine za ?_
     exact zf [] h
    ·have hd:decide (su w)=true:=decide_eq_true (.inr (.inl h0))
     have h:=ht hd
     rw [show kyF w s=x3 (hB w) s [107,101,121] [] (Int.toNat 32) by unfold kyF aSz;rw [if_neg (by omega)];rfl,show ivF w s=x3 (hB w) s [105,118] [] (Int.toNat 12) by unfold ivF;rfl] at h
     refine za ?_
     exact zf [] h
    ·have hd:decide (su w)=true:=decide_eq_true (.inr (.inr h0))
     have h:=ht hd
     rw [show kyF w s=x3 (hB w) s [107,101,121] [] (Int.toNat 32) by unfold kyF aSz;rw [if_neg (by omega)];rfl,show ivF w s=x3 (hB w) s [105,118] [] (Int.toNat 12) by unfold ivF;rfl] at h
     refine za ?_
     exact zf [] h
    ·have hd:decide (su w)=false:=decide_eq_false (by unfold su;omega)
     have h:=hf hd
     refine za ?_
     exact zf [] h
   ·exact h.elim
attribute [local irreducible] kyF ivF
def zw9:Spec:=fun args hp K=>match args,hp with
  | [.int w,.str s],[]=>Pre (s.length≤140737488351232)
      (ye (decide (su w)) (K (.tup [.agg [.int w,.str (kyF w s),.str (ivF w s),.int 0,.bool true],.bool true]) []) (K (.tup [.agg [.int w,.str [],.str [],.int 0,.bool true],.bool false]) []))
  |_,_=>False
theorem z1g:zp prog 43 zw9:=by
  refine zm zfr (zd ybe zi) rfl func43 rfl call43 (D:=ylo) ?_ ?_
  ·intro args hp K h
   unfold zw9 at h
   split at h
   ·exact Nat.le_of_ble_eq_true rfl
   ·exact h.elim
  ·intro args hp K h
   unfold zw9 at h
   split at h
   ·rename_i w s
    obtain ⟨hs,h⟩:=zq h
    obtain ⟨ht,hf⟩:=z8 h
    generalize e:decide (su w)=c at ht hf
    cases c
    ·have h:=hf rfl
     refine za ?_
     exact zf [] h
    ·have h:=ht rfl
     refine za ?_
     exact zf [] h
   ·exact h.elim
end Go.Sym.Z

namespace Go.Sym.Z
open Go Go.Proofs.Tryz Go.Sym.Lp Go.Sym.Cha Go.Sym.Sha Go.Sym.Hk
set_option maxRecDepth 100000
attribute [local irreducible] x3 exF kyF ivF
def ykz:List (Nat×List PStep):= [(3,[⟨0,[]⟩,⟨1,[0]⟩,⟨2,[0]⟩,⟨3,[0]⟩,⟨4,[0]⟩,⟨5,[]⟩,⟨6,[]⟩,⟨7,[0,1,2,3,4,5,6]⟩,⟨8,[0,1,2,3,4,5,6]⟩,⟨9,[0,1,2,3,4,5,6]⟩,⟨10,[0,1,2,3,4,5,6]⟩,⟨11,[]⟩,⟨12,[0,1,2,3,4,5,6,7,8,9,10,11]⟩,⟨13,[0,1,2,3,4,5,6,7,8,9,10,11]⟩,⟨14,[0,1,2,3,4,5,6,7,8,9,10,11]⟩,⟨15,[0,1,2,3,4,5,6,7,8,9,10,11]⟩,⟨16,[]⟩,⟨17,[]⟩,⟨18,[]⟩])]
def yl7:List (Nat×List PStep):= [(1,[⟨0,[]⟩,⟨1,[]⟩,⟨2,[]⟩,⟨3,[]⟩,⟨6,[0,1,2,3]⟩,⟨4,[0,1,2,3,6]⟩,⟨5,[6]⟩,⟨7,[0,1,2,3,5]⟩,⟨8,[]⟩,⟨9,[]⟩])]
def ykm:List (Nat×List PStep):= []
def ykn:List (Nat×List PStep):= []
def ylm:List (Nat×List PStep):= []
def hdF (kind n:Int):List UInt8:= [UInt8.ofInt kind,3,3,UInt8.ofInt (n/ 2^8),UInt8.ofInt n]
def zzf:Spec:=fun args hp K=>match args,hp with
  | [.int kind,.int n],[]=>K (.str (hdF kind n)) []
  |_,_=>False
theorem ya4:zp prog 64 zzf:=by
  refine zm zb4 (zd zpd zi) rfl func64 rfl call64 (D:=yl7) ?_ ?_
  ·intro args hp K h
   unfold zzf at h
   split at h
   ·exact Nat.le_of_ble_eq_true rfl
   ·exact h.elim
  ·intro args hp K h
   unfold zzf at h
   split at h
   ·rename_i kind n
    refine za ?_
    rw [zex,if_neg (by decide)]
    refine za ?_
    rw [if_neg (by decide)]
    refine za ?_
    conv=>whnf
    exact zf [] h
   ·exact h.elim
def ziu:Spec:=fun args hp K=>match args,hp with
  | [.int p],[]=>K (.tup [.agg [.int p,.nilptr],.bool (decide (0≤p∧p≤16384))]) []
  |_,_=>False
theorem zvk:zp prog 40 ziu:=by
  refine zm zb4 zi rfl func40 rfl call40 (D:=ykm) ?_ ?_
  ·intro args hp K h
   unfold ziu at h
   split at h
   ·exact Nat.le_of_ble_eq_true rfl
   ·exact h.elim
  ·intro args hp K h
   unfold ziu at h
   split at h
   ·rename_i p
    by_cases h1:0≤p
    ·by_cases h2:p≤16384
     ·have d2:decide (p≤16384)=true:=decide_eq_true h2
      rw [decide_eq_true ⟨h1,h2⟩] at h
      refine za ?_
      rw [d2]
      conv=>whnf
      exact zf [] h
     ·have d2:decide (p≤16384)=false:=decide_eq_false h2
      rw [decide_eq_false fun hh=>h2 hh.2] at h
      refine za ?_
      rw [d2]
      conv=>whnf
      exact zf [] h
    ·rw [decide_eq_false fun hh=>h1 hh.1] at h
     refine za ?_
     exact zf [] h
   ·exact h.elim
def inL (p n:Int):Int:=if 0<p then min ((n+1+p-1)/ p*p) 16385 else n+1
end Go.Sym.Z

namespace Go.Sym.Z
open Go Go.Proofs.Tryz Go.Sym.Lp Go.Sym.Gcm Go.Sym.Aes Go.Sym.Pol Go.Sym.Cha
set_option maxRecDepth 100000
attribute [local irreducible] zay yx zgf zew zft xt xq y3 gst gtg gW gR gH y6
def zxp:Spec:=fun args hp K=>match args,hp with
  | [.agg [.sl 0 0 0 [] n c,.nilsl]],[.mk t [.arr8 m l]]=>Pre (n=l.length∧0<n∧n≤100000)
      (zaz fun x:List UInt8=>K (.sl 1 0 0 [] n (n+x.length)) [.mk t [.arr8 m l],.mk 5 [.arr8 (n+x.length) (l++x)]])
  |_,_=>False
theorem yak:zp prog 89 zxp:=by
  refine zm zbo zi rfl func89 rfl call89 (D:=ygx) ?_ ?_
  ·intro args hp K h
   unfold zxp at h
   split at h
   ·exact Nat.le_of_ble_eq_true rfl
   ·exact h.elim
  ·intro args hp K h
   unfold zxp at h
   split at h
   ·rename_i n c t m l
    obtain ⟨⟨ha,h0,h1⟩,h⟩:=zq h
    have hla:(List.take n (List.drop (off []) l)).length=n:=by rw [List.length_take,List.length_drop];show min n (l.length-0)=n;omega
    have hle:List.take n (List.drop (off []) l)=l:=List.take_of_length_le (by show (List.drop 0 l).length≤n;rw [List.drop_zero];omega)
    refine za ?_
    refine yi fun t1=>?_
    refine za ?_
    refine zr ⟨by omega,by rw [List.length_append],by show _+0≤_;omega⟩ ?_
    refine za ?_
    refine yi fun t2=>?_
    have h:=x0 h t2
    refine za ?_
    rw [List.take_left' rfl,hle,List.length_nil,Nat.add_zero,List.append_nil,←ha]
    conv=>whnf
    exact zf [0,3] h
   ·exact h.elim
def zom:Spec:=fun args hp K=>match args,hp with
  | [.agg [.sl 0 0 0 [] n c,.nilsl],.sl 1 0 0 [] N c2],[.mk t [.arr8 m l],.mk t2 [.arr8 M s]]=>Pre (N=n∧n=l.length∧0<n∧n≤100000∧n≤s.length∧n≤c2)
      (K (.tup []) [.mk t [.arr8 m (s.take n)],.mk t2 [.arr8 M s]])
  |_,_=>False
theorem z3p:zp prog 93 zom:=by
  refine zm zbo zi rfl func93 rfl call93 (D:=yjf) ?_ ?_
  ·intro args hp K h
   unfold zom at h
   split at h
   ·exact Nat.le_of_ble_eq_true rfl
   ·exact h.elim
  ·intro args hp K h
   unfold zom at h
   split at h
   ·rename_i n c N c2 t m l t2 M s
    obtain ⟨⟨hN,ha,h0,h1,hs,hc⟩,h'⟩:=zq h
    clear h
    subst hN
    have hl1:(List.take N (List.drop (off []) s)).length=N:=by rw [List.length_take,List.length_drop];show min N (s.length-0)=N;omega
    have hmn:(((min (List.take N (List.drop (off []) s)).length N:Nat):Int)).toNat=N:=by rw [hl1];omega
    have hsl:off (yb [] (slO c2 N) ty5.sz)+(N-N)≤s.length:=by
      rw [zy]
      show 0+slO c2 N*1+_≤_
      unfold slO;split<;>omega
    refine za ?_
    have hEq:zx l (off []) (List.take (min (List.take N (List.drop (off []) s)).length N) (List.take N (List.drop (off []) s)))=s.take N:=by
      rw [hl1,Nat.min_self]
      have e1:List.take N (List.take N (List.drop (off []) s))=s.take N:=by rw [List.take_take,Nat.min_self];rfl
      rw [e1]
      unfold zx
      have e2:(s.take N).length=N:=by rw [List.length_take];omega
      show List.take 0 l++s.take N++List.drop (0+(s.take N).length) l=s.take N
      rw [e2,List.take_zero,List.nil_append,Nat.zero_add,List.drop_eq_nil_of_le (by omega),List.append_nil]
    rw [hmn]
    refine za ?_
    refine yu (hp':= [.mk t [.arr8 m (s.take N)],.mk t2 [.arr8 M s]]) [0,1] h' ?_
    repeat ((conv=>whnf);refine zb ?_)
    conv=>whnf
    exact zo (congrArg (fun y=>SV.agg [SV.arr8 m y]) hEq)
   ·exact h.elim
def zo7:Spec:=fun args hp K=>match args,hp with
  | [.int w,.str key,.str nonce,.str aad,.sl 0 0 0 [] n c,.nilsl],[.mk t [.arr8 m l]]=>Pre (n=l.length∧16≤n∧zrg w key nonce aad ((n:Int)+0-16))
      (K (.int 0) [.mk t [.arr8 m (y6 w key nonce aad (l.take (n-16)))]])
  |_,_=>False
set_option maxHeartbeats 4000000 in
theorem z2q:zp prog 66 zo7:=by
  refine zm zbo (zd z41 (zd yak (zd zmb (zd z8e (zd z8q (zd z3p zi)))))) rfl func66 rfl call66 (D:=ymh) ?_ ?_
  ·intro args hp K h
   unfold zo7 at h
   split at h
   ·exact Nat.le_of_ble_eq_true rfl
   ·exact h.elim
  ·intro args hp K h
   unfold zo7 at h
   split at h
   ·rename_i w key nonce aad n c t m l
    obtain ⟨⟨hnl,h16,h0⟩,h⟩:=zq h
    have hd:decide (zdw w key.length∧nonce.length=12∧aad.length≤65536∧(n:Int)+0-16≤65536)=true:=decide_eq_true (by unfold zrg at h0;exact h0)
    unfold zrg at h0
    obtain ⟨hk,h1,h2,h3⟩:=h0
    unfold zdw at hk
    have hnn:((n:Int)+0-16).toNat=n-16:=by omega
    have hpj:n=l.length∧0<n∧n≤100000:=⟨hnl,by omega,by omega⟩
    by_cases h4:w=4867
    ·repeat ((conv=>whnf);first|refine zu ?_|refine zg ?_|refine zh ?_|refine zb ?_|refine zr (by first|exact hd|(rw [hd];rfl)) ?_|refine zj (by first|exact hd|(rw [hd];rfl)) ?_|refine zk (by first|exact hd|(rw [hd];rfl)) ?_)
     conv=>whnf
     refine yi fun x=>?_
     have hRl:(l++x).length=n+x.length:=by rw [List.length_append,←hnl]
     have hT1:List.take ((n:Int)+0-16).toNat (l++x)=l.take (n-16):=by
       rw [hnn,List.take_append_of_le_length (by omega)]
     have hT3:List.drop ((n:Int)+0-16).toNat (l++x)=l.drop (n-16)++x:=by
       rw [hnn,List.drop_append_of_le_length (by omega)]
     have hStr:y3 w key nonce=xt key nonce 1:=by funext b;unfold y3;rw [if_pos h4]
     have hX:(xt key nonce (UInt32.ofInt 1) (List.take ((n:Int)+0-16).toNat (l++x))++List.drop ((n:Int)+0-16).toNat (l++x))=y3 w key nonce (l.take (n-16))++(l.drop (n-16)++x):=by
       rw [hT1,hT3,hStr];rfl
     have hXl:(xt key nonce (UInt32.ofInt 1) (List.take ((n:Int)+0-16).toNat (l++x))++List.drop ((n:Int)+0-16).toNat (l++x)).length=n+x.length:=by
       rw [hX,List.length_append,List.length_append,zar,List.length_take,List.length_drop]
       omega
     have hof:(off (yb [] (slO (n+x.length) ((n:Int)+0-16).toNat) ty5.sz))=n-16:=by rw [hnn,zy,y7 (by omega)];show 0+(n-16)*1=_;omega
     have hpo:(off (yb [] (slO (n+x.length) ((n:Int)+0-16).toNat) ty5.sz))+(n-((n:Int)+0-16).toNat)≤(xt key nonce (UInt32.ofInt 1) (List.take ((n:Int)+0-16).toNat (l++x))++List.drop ((n:Int)+0-16).toNat (l++x)).length:=by rw [hof,hXl,hnn];omega
     have hA1:List.take ((n:Int)+0-16).toNat (xt key nonce (UInt32.ofInt 1) (List.take ((n:Int)+0-16).toNat (l++x))++List.drop ((n:Int)+0-16).toNat (l++x))=y3 w key nonce (l.take (n-16)):=by
       rw [hX];exact List.take_left' (by rw [zar,List.length_take,hnn];omega)
     have hTg:(yx key nonce aad (List.take ((n:Int)+0-16).toNat (xt key nonce (UInt32.ofInt 1) (List.take ((n:Int)+0-16).toNat (l++x))++List.drop ((n:Int)+0-16).toNat (l++x))))=xq w key nonce aad (y3 w key nonce (l.take (n-16))):=by
       rw [hA1];unfold xq;rw [if_pos h4]
     have hTl:(yx key nonce aad (List.take ((n:Int)+0-16).toNat (xt key nonce (UInt32.ofInt 1) (List.take ((n:Int)+0-16).toNat (l++x))++List.drop ((n:Int)+0-16).toNat (l++x)))).length=16:=by rw [hTg,zc9]
     have hpx:key.length=32∧nonce.length=12∧((n:Int)+0-16).toNat≤(l++x).length∧((n:Int)+0-16).toNat≤n+x.length∧((n:Int)+0-16).toNat≤9223372036854775807:=⟨by omega,h1,by omega,by omega,by omega⟩
     have hpt:key.length=32∧nonce.length=12∧aad.length≤65536∧((n:Int)+0-16).toNat≤65536∧((n:Int)+0-16).toNat≤(xt key nonce (UInt32.ofInt 1) (List.take ((n:Int)+0-16).toNat (l++x))++List.drop ((n:Int)+0-16).toNat (l++x)).length∧((n:Int)+0-16).toNat≤n+x.length:=⟨by omega,h1,h2,by omega,by omega,by omega⟩
     have hSp:(zx (xt key nonce (UInt32.ofInt 1) (List.take ((n:Int)+0-16).toNat (l++x))++List.drop ((n:Int)+0-16).toNat (l++x)) (off (yb [] (slO (n+x.length) ((n:Int)+0-16).toNat) ty5.sz)) (List.take (min (yx key nonce aad (List.take ((n:Int)+0-16).toNat (xt key nonce (UInt32.ofInt 1) (List.take ((n:Int)+0-16).toNat (l++x))++List.drop ((n:Int)+0-16).toNat (l++x)))).length (n-((n:Int)+0-16).toNat)) (yx key nonce aad (List.take ((n:Int)+0-16).toNat (xt key nonce (UInt32.ofInt 1) (List.take ((n:Int)+0-16).toNat (l++x))++List.drop ((n:Int)+0-16).toNat (l++x))))))=y6 w key nonce aad (l.take (n-16))++x:=by
       rw [hTl,show min 16 (n-((n:Int)+0-16).toNat)=16 by omega,List.take_of_length_le (Nat.le_of_eq hTl),hTg,hof,hX,ze5]
       unfold zx
       rw [zc9,List.take_left' (by rw [zar,List.length_take];omega),←List.append_assoc (y3 w key nonce _),List.drop_left' (by rw [List.length_append,zar,List.length_take,List.length_drop];omega)]
     have hAl:(y6 w key nonce aad (l.take (n-16))).length=n:=by
       rw [ze5,List.length_append,zc9,zar,List.length_take];omega
     have hSpl:(zx (xt key nonce (UInt32.ofInt 1) (List.take ((n:Int)+0-16).toNat (l++x))++List.drop ((n:Int)+0-16).toNat (l++x)) (off (yb [] (slO (n+x.length) ((n:Int)+0-16).toNat) ty5.sz)) (List.take (min (yx key nonce aad (List.take ((n:Int)+0-16).toNat (xt key nonce (UInt32.ofInt 1) (List.take ((n:Int)+0-16).toNat (l++x))++List.drop ((n:Int)+0-16).toNat (l++x)))).length (n-((n:Int)+0-16).toNat)) (yx key nonce aad (List.take ((n:Int)+0-16).toNat (xt key nonce (UInt32.ofInt 1) (List.take ((n:Int)+0-16).toNat (l++x))++List.drop ((n:Int)+0-16).toNat (l++x)))))).length=n+x.length:=by rw [hSp,List.length_append,hAl]
     have hps:n=n∧n=l.length∧0<n∧n≤100000∧n≤(zx (xt key nonce (UInt32.ofInt 1) (List.take ((n:Int)+0-16).toNat (l++x))++List.drop ((n:Int)+0-16).toNat (l++x)) (off (yb [] (slO (n+x.length) ((n:Int)+0-16).toNat) ty5.sz)) (List.take (min (yx key nonce aad (List.take ((n:Int)+0-16).toNat (xt key nonce (UInt32.ofInt 1) (List.take ((n:Int)+0-16).toNat (l++x))++List.drop ((n:Int)+0-16).toNat (l++x)))).length (n-((n:Int)+0-16).toNat)) (yx key nonce aad (List.take ((n:Int)+0-16).toNat (xt key nonce (UInt32.ofInt 1) (List.take ((n:Int)+0-16).toNat (l++x))++List.drop ((n:Int)+0-16).toNat (l++x)))))).length∧n≤n+x.length:=⟨rfl,hnl,by omega,by omega,by omega,by omega⟩
     have hpj:n=l.length∧0<n∧n≤100000:=⟨hnl,by omega,by omega⟩
     refine za ?_
     refine yu (hp':= [.mk t [.arr8 m (y6 w key nonce aad (l.take (n-16)))]]) [0] h ?_
     repeat ((conv=>whnf);refine zb ?_)
     conv=>whnf
     exact zo (congrArg (fun y=>SV.agg [SV.arr8 m y]) (by rw [hSp];exact List.take_left' hAl))
    ·repeat ((conv=>whnf);first|refine zu ?_|refine zg ?_|refine zh ?_|refine zb ?_|refine zr (by first|exact hd|(rw [hd];rfl)) ?_|refine zj (by first|exact hd|(rw [hd];rfl)) ?_|refine zk (by first|exact hd|(rw [hd];rfl)) ?_)
     conv=>whnf
     refine yi fun x=>?_
     have hRl:(l++x).length=n+x.length:=by rw [List.length_append,←hnl]
     have hT1:List.take ((n:Int)+0-16).toNat (l++x)=l.take (n-16):=by
       rw [hnn,List.take_append_of_le_length (by omega)]
     have hT3:List.drop ((n:Int)+0-16).toNat (l++x)=l.drop (n-16)++x:=by
       rw [hnn,List.drop_append_of_le_length (by omega)]
     have hStr:y3 w key nonce=zft key nonce:=by funext b;unfold y3;rw [if_neg h4]
     have hX:(gst (gW key) (gR key) nonce 2 (List.take ((n:Int)+0-16).toNat (l++x))++List.drop ((n:Int)+0-16).toNat (l++x))=y3 w key nonce (l.take (n-16))++(l.drop (n-16)++x):=by
       rw [hT1,hT3,hStr];unfold zft;rfl
     have hXl:(gst (gW key) (gR key) nonce 2 (List.take ((n:Int)+0-16).toNat (l++x))++List.drop ((n:Int)+0-16).toNat (l++x)).length=n+x.length:=by
       rw [hX,List.length_append,List.length_append,zar,List.length_take,List.length_drop]
       omega
     have hof:(off (yb [] (slO (n+x.length) ((n:Int)+0-16).toNat) ty5.sz))=n-16:=by rw [hnn,zy,y7 (by omega)];show 0+(n-16)*1=_;omega
     have hpo:(off (yb [] (slO (n+x.length) ((n:Int)+0-16).toNat) ty5.sz))+(n-((n:Int)+0-16).toNat)≤(gst (gW key) (gR key) nonce 2 (List.take ((n:Int)+0-16).toNat (l++x))++List.drop ((n:Int)+0-16).toNat (l++x)).length:=by rw [hof,hXl,hnn];omega
     have hA1:List.take ((n:Int)+0-16).toNat (gst (gW key) (gR key) nonce 2 (List.take ((n:Int)+0-16).toNat (l++x))++List.drop ((n:Int)+0-16).toNat (l++x))=y3 w key nonce (l.take (n-16)):=by
       rw [hX];exact List.take_left' (by rw [zar,List.length_take,hnn];omega)
     have hTg:(gtg (gW key) (gR key) ((gH (gW key) (gR key)).1,(gH (gW key) (gR key)).2) nonce aad (List.take ((n:Int)+0-16).toNat (gst (gW key) (gR key) nonce 2 (List.take ((n:Int)+0-16).toNat (l++x))++List.drop ((n:Int)+0-16).toNat (l++x))))=xq w key nonce aad (y3 w key nonce (l.take (n-16))):=by
       rw [hA1];unfold xq;rw [if_neg h4];unfold zew;rfl
     have hTl:(gtg (gW key) (gR key) ((gH (gW key) (gR key)).1,(gH (gW key) (gR key)).2) nonce aad (List.take ((n:Int)+0-16).toNat (gst (gW key) (gR key) nonce 2 (List.take ((n:Int)+0-16).toNat (l++x))++List.drop ((n:Int)+0-16).toNat (l++x)))).length=16:=by rw [hTg,zc9]
     have hWl:=zpg (key:=key) (by omega)
     have hR7:gR key=key.length/ 4+7:=by unfold gR;rfl
     have hpx:box=box∧nonce.length=12∧1≤gR key∧gR key≤100∧16*gR key≤(gW key).length∧((n:Int)+0-16).toNat≤(l++x).length∧((n:Int)+0-16).toNat≤n+x.length∧((n:Int)+0-16).toNat≤9223372036854775807:=⟨rfl,h1,by omega,by omega,by omega,by omega,by omega,by omega⟩
     have hpt:box=box∧nonce.length=12∧1≤gR key∧gR key≤100∧16*gR key≤(gW key).length∧((n:Int)+0-16).toNat≤(gst (gW key) (gR key) nonce 2 (List.take ((n:Int)+0-16).toNat (l++x))++List.drop ((n:Int)+0-16).toNat (l++x)).length∧((n:Int)+0-16).toNat≤n+x.length∧aad.length≤65536∧((n:Int)+0-16).toNat≤70000:=⟨rfl,h1,by omega,by omega,by omega,by omega,by omega,h2,by omega⟩
     have hSp:(zx (gst (gW key) (gR key) nonce 2 (List.take ((n:Int)+0-16).toNat (l++x))++List.drop ((n:Int)+0-16).toNat (l++x)) (off (yb [] (slO (n+x.length) ((n:Int)+0-16).toNat) ty5.sz)) (List.take (min (gtg (gW key) (gR key) ((gH (gW key) (gR key)).1,(gH (gW key) (gR key)).2) nonce aad (List.take ((n:Int)+0-16).toNat (gst (gW key) (gR key) nonce 2 (List.take ((n:Int)+0-16).toNat (l++x))++List.drop ((n:Int)+0-16).toNat (l++x)))).length (n-((n:Int)+0-16).toNat)) (gtg (gW key) (gR key) ((gH (gW key) (gR key)).1,(gH (gW key) (gR key)).2) nonce aad (List.take ((n:Int)+0-16).toNat (gst (gW key) (gR key) nonce 2 (List.take ((n:Int)+0-16).toNat (l++x))++List.drop ((n:Int)+0-16).toNat (l++x))))))=y6 w key nonce aad (l.take (n-16))++x:=by
       rw [hTl,show min 16 (n-((n:Int)+0-16).toNat)=16 by omega,List.take_of_length_le (Nat.le_of_eq hTl),hTg,hof,hX,ze5]
       unfold zx
       rw [zc9,List.take_left' (by rw [zar,List.length_take];omega),←List.append_assoc (y3 w key nonce _),List.drop_left' (by rw [List.length_append,zar,List.length_take,List.length_drop];omega)]
     have hAl:(y6 w key nonce aad (l.take (n-16))).length=n:=by
       rw [ze5,List.length_append,zc9,zar,List.length_take];omega
     have hSpl:(zx (gst (gW key) (gR key) nonce 2 (List.take ((n:Int)+0-16).toNat (l++x))++List.drop ((n:Int)+0-16).toNat (l++x)) (off (yb [] (slO (n+x.length) ((n:Int)+0-16).toNat) ty5.sz)) (List.take (min (gtg (gW key) (gR key) ((gH (gW key) (gR key)).1,(gH (gW key) (gR key)).2) nonce aad (List.take ((n:Int)+0-16).toNat (gst (gW key) (gR key) nonce 2 (List.take ((n:Int)+0-16).toNat (l++x))++List.drop ((n:Int)+0-16).toNat (l++x)))).length (n-((n:Int)+0-16).toNat)) (gtg (gW key) (gR key) ((gH (gW key) (gR key)).1,(gH (gW key) (gR key)).2) nonce aad (List.take ((n:Int)+0-16).toNat (gst (gW key) (gR key) nonce 2 (List.take ((n:Int)+0-16).toNat (l++x))++List.drop ((n:Int)+0-16).toNat (l++x)))))).length=n+x.length:=by rw [hSp,List.length_append,hAl]
     have hps:n=n∧n=l.length∧0<n∧n≤100000∧n≤(zx (gst (gW key) (gR key) nonce 2 (List.take ((n:Int)+0-16).toNat (l++x))++List.drop ((n:Int)+0-16).toNat (l++x)) (off (yb [] (slO (n+x.length) ((n:Int)+0-16).toNat) ty5.sz)) (List.take (min (gtg (gW key) (gR key) ((gH (gW key) (gR key)).1,(gH (gW key) (gR key)).2) nonce aad (List.take ((n:Int)+0-16).toNat (gst (gW key) (gR key) nonce 2 (List.take ((n:Int)+0-16).toNat (l++x))++List.drop ((n:Int)+0-16).toNat (l++x)))).length (n-((n:Int)+0-16).toNat)) (gtg (gW key) (gR key) ((gH (gW key) (gR key)).1,(gH (gW key) (gR key)).2) nonce aad (List.take ((n:Int)+0-16).toNat (gst (gW key) (gR key) nonce 2 (List.take ((n:Int)+0-16).toNat (l++x))++List.drop ((n:Int)+0-16).toNat (l++x)))))).length∧n≤n+x.length:=⟨rfl,hnl,by omega,by omega,by omega,by omega⟩
     have hpj:n=l.length∧0<n∧n≤100000:=⟨hnl,by omega,by omega⟩
     refine za ?_
     refine yu (hp':= [.mk t [.arr8 m (y6 w key nonce aad (l.take (n-16)))]]) [0] h ?_
     repeat ((conv=>whnf);refine zb ?_)
     conv=>whnf
     exact zo (congrArg (fun y=>SV.agg [SV.arr8 m y]) (by rw [hSp];exact List.take_left' hAl))
   ·exact h.elim
end Go.Sym.Z
