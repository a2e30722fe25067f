/-
  Contracts of functions of the program, each said of symbolic values, and plain laws; no condition beyond each statement's own.
-/
import Derived.Test.YtmmpgjcpielefaaGreatGLStreamActs14
import Derived.Test.YtmmpgjcpielefaaGreatGLStreamActs13
set_option linter.unusedSimpArgs false
set_option linter.unusedVariables false
namespace Go.Sym.Gcm
open Go.Sym.Lp Go.Sym.Aes
def ldE (s:List UInt8):Nat→El
  |0=>z0
  |i+1=>((ldE s i).1<<<8|||(s.getD i 0).toUInt64,(ldE s i).2<<<8|||(s.getD (8+i) 0).toUInt64)
def ld (s:List UInt8):El:=ldE s 8
def z6r (f g:Nat→UInt8):Nat→List UInt8
  |0=>List.replicate 16 0
  |i+1=>((z6r f g i).set i (f i)).set (8+i) (g i)
theorem zwm (f g:Nat→UInt8): ∀i,(z6r f g i).length=16
  |0=>rfl
  |i+1=>by simp only [z6r,List.length_set];exact zwm f g i
theorem z8y (f g:Nat→UInt8):z6r f g 8= [f 0,f 1,f 2,f 3,f 4,f 5,f 6,f 7,g 0,g 1,g 2,g 3,g 4,g 5,g 6,g 7]:=rfl
def zml (e:El) (i:Nat):List UInt8:=z6r (fun i=>(e.1>>>UInt64.ofNat (56-8*i)).toUInt8) (fun i=>(e.2>>>UInt64.ofNat (56-8*i)).toUInt8) i
theorem zwa (e:El) (i:Nat):(zml e i).length=16:=zwm _ _ i
theorem yfn (e:El) (i:Nat):zml e (i+1)=((zml e i).set i (e.1>>>UInt64.ofNat (56-8*i)).toUInt8).set (8+i) (e.2>>>UInt64.ofNat (56-8*i)).toUInt8:=rfl
def wr (e:El):List UInt8:=zml e 8
theorem zi1 (e:El):(wr e).length=16:=zwa e 8
theorem yc7 (e:El):wr e= [(e.1>>>UInt64.ofNat (56-8*0)).toUInt8,(e.1>>>UInt64.ofNat (56-8*1)).toUInt8,(e.1>>>UInt64.ofNat (56-8*2)).toUInt8,(e.1>>>UInt64.ofNat (56-8*3)).toUInt8,(e.1>>>UInt64.ofNat (56-8*4)).toUInt8,(e.1>>>UInt64.ofNat (56-8*5)).toUInt8,(e.1>>>UInt64.ofNat (56-8*6)).toUInt8,(e.1>>>UInt64.ofNat (56-8*7)).toUInt8,(e.2>>>UInt64.ofNat (56-8*0)).toUInt8,(e.2>>>UInt64.ofNat (56-8*1)).toUInt8,(e.2>>>UInt64.ofNat (56-8*2)).toUInt8,(e.2>>>UInt64.ofNat (56-8*3)).toUInt8,(e.2>>>UInt64.ofNat (56-8*4)).toUInt8,(e.2>>>UInt64.ofNat (56-8*5)).toUInt8,(e.2>>>UInt64.ofNat (56-8*6)).toUInt8,(e.2>>>UInt64.ofNat (56-8*7)).toUInt8]:=by
  unfold wr zml
  rw [z8y]
def sr8 (a:UInt64):Nat→UInt64
  |0=>a
  |k+1=>sr8 a k>>>8
def zmo (e:El):Nat→List UInt8
  |0=>List.replicate 16 0
  |k+1=>((zmo e k).set (7-k) (sr8 e.1 k&&&255).toUInt8).set (15-k) (sr8 e.2 k&&&255).toUInt8
theorem zw5 (e:El): ∀i,(zmo e i).length=16
  |0=>rfl
  |i+1=>by simp only [zmo,List.length_set];exact zw5 e i
theorem z09 (a:UInt64): ∀k,(sr8 a k).toNat=a.toNat/ 2^(8*k)
  |0=>by show a.toNat=_;simp
  |k+1=>by
   have e:(sr8 a k>>>8).toNat=(sr8 a k).toNat/ 2^8:=zj6 _ (k:=8) (by decide)
   rw [sr8,e,z09 a k,Nat.div_div_eq_div_mul,←Nat.pow_add];rfl
theorem zd8 (y:UInt64):(y&&&255).toNat=y.toNat%256:=by
  rw [UInt64.toNat_and];show y.toNat&&&(2^8-1)=_;rw [Nat.and_two_pow_sub_one_eq_mod]
theorem zac (a:UInt64) {k:Nat} (h:k<8):(sr8 a k&&&255).toUInt8=(a>>>UInt64.ofNat (8*k)).toUInt8:=by
  apply UInt8.toNat_inj.1
  rw [UInt64.toNat_toUInt8,UInt64.toNat_toUInt8,zd8,z09,zj6 _ (by omega),Nat.mod_mod]
theorem yjs (e:El):zmo e 8=wr e:=by
  have h1:zmo e 8= [(sr8 e.1 7&&&255).toUInt8,(sr8 e.1 6&&&255).toUInt8,(sr8 e.1 5&&&255).toUInt8,(sr8 e.1 4&&&255).toUInt8,(sr8 e.1 3&&&255).toUInt8,(sr8 e.1 2&&&255).toUInt8,(sr8 e.1 1&&&255).toUInt8,(sr8 e.1 0&&&255).toUInt8,(sr8 e.2 7&&&255).toUInt8,(sr8 e.2 6&&&255).toUInt8,(sr8 e.2 5&&&255).toUInt8,(sr8 e.2 4&&&255).toUInt8,(sr8 e.2 3&&&255).toUInt8,(sr8 e.2 2&&&255).toUInt8,(sr8 e.2 1&&&255).toUInt8,(sr8 e.2 0&&&255).toUInt8]:=rfl
  rw [h1]
  rw [zac e.1 (k:=7) (by decide),zac e.1 (k:=6) (by decide),zac e.1 (k:=5) (by decide),zac e.1 (k:=4) (by decide),zac e.1 (k:=3) (by decide),zac e.1 (k:=2) (by decide),zac e.1 (k:=1) (by decide),zac e.1 (k:=0) (by decide)]
  rw [zac e.2 (k:=7) (by decide),zac e.2 (k:=6) (by decide),zac e.2 (k:=5) (by decide),zac e.2 (k:=4) (by decide),zac e.2 (k:=3) (by decide),zac e.2 (k:=2) (by decide),zac e.2 (k:=1) (by decide),zac e.2 (k:=0) (by decide)]
  rw [yc7]
def ctr (nonce:List UInt8) (n:UInt32):List UInt8:=nonce++ [(n>>>24).toUInt8,(n>>>16).toUInt8,(n>>>8).toUInt8,n.toUInt8]
theorem znb {nonce:List UInt8} (h:nonce.length=12) (n:UInt32):(ctr nonce n).length=16:=by unfold ctr;simp [h]
def zsr (nonce:List UInt8) (n:UInt32):Nat→List UInt8
  |0=>nonce++ [0,0,0,0]
  |i+1=>(zsr nonce n i).set (15-i) (n>>>UInt32.ofNat (8*i)).toUInt8
theorem zvx {nonce:List UInt8} (h:nonce.length=12) (n:UInt32): ∀i,(zsr nonce n i).length=16
  |0=>by simp [zsr,h]
  |i+1=>by simp only [zsr,List.length_set];exact zvx h n i
theorem zym {x:List UInt8} (h:x.length=12): ∃a0 a1 a2 a3 a4 a5 a6 a7 a8 a9 b0 b1,x= [a0,a1,a2,a3,a4,a5,a6,a7,a8,a9,b0,b1]:=by
  match x,h with
  | [a0,a1,a2,a3,a4,a5,a6,a7,a8,a9,b0,b1],_=>exact ⟨a0,a1,a2,a3,a4,a5,a6,a7,a8,a9,b0,b1,rfl⟩
theorem z9q {nonce:List UInt8} (h:nonce.length=12) (n:UInt32):zsr nonce n 4=ctr nonce n:=by
  obtain ⟨a0,a1,a2,a3,a4,a5,a6,a7,a8,a9,b0,b1,rfl⟩:=zym h
  have e:(n>>>UInt32.ofNat (8*0)).toUInt8=n.toUInt8:=by
    have:n>>>UInt32.ofNat (8*0)=n:=UInt32.shiftRight_zero
    rw [this]
  show [a0,a1,a2,a3,a4,a5,a6,a7,a8,a9,b0,b1,_,_,_,(n>>>UInt32.ofNat (8*0)).toUInt8]=_
  rw [e]
  rfl
def beB (x:Int) (size:Nat):List UInt8:=(List.range size).map fun j=>UInt8.ofInt (x/ 2^(8*(size-1-j)))
theorem zam (x:Int) (size:Nat):(beB x size).length=size:=zz _ _
theorem z3j (n:Nat):UInt8.ofInt (n:Int)=UInt8.ofNat n:=by
  apply UInt8.toNat_inj.1
  unfold UInt8.ofInt
  rw [UInt8.toNat_ofNat',UInt8.toNat_ofNat']
  omega
theorem zd1 {n:Nat} (k:Nat):UInt8.ofInt ((n:Int)/ 2^k)=UInt8.ofNat (n/ 2^k):=by
  have e:((n:Int)/ 2^k)=((n/ 2^k:Nat):Int):=by rw [Int.natCast_ediv,Int.natCast_pow];rfl
  rw [e,z3j]
theorem yfc {nonce:List UInt8} {n:Nat} (hn:n<4294967296):nonce++beB (n:Int) 4=ctr nonce (UInt32.ofNat n):=by
  unfold ctr
  congr 1
  have hv:(UInt32.ofNat n).toNat=n:=by rw [UInt32.toNat_ofNat'];omega
  have b: ∀k,k<32→UInt8.ofInt ((n:Int)/ 2^k)=(UInt32.ofNat n>>>UInt32.ofNat k).toUInt8:=by
    intro k hk
    have hk2:(UInt32.ofNat k).toNat=k:=by rw [UInt32.toNat_ofNat'];omega
    rw [zd1]
    apply UInt8.toNat_inj.1
    rw [UInt32.toNat_toUInt8,UInt8.toNat_ofNat',UInt32.toNat_shiftRight,hv,hk2,Nat.mod_eq_of_lt hk,Nat.shiftRight_eq_div_pow]
  have b0:=b 0 (by decide)
  have z:UInt32.ofNat n>>>UInt32.ofNat 0=UInt32.ofNat n:=UInt32.shiftRight_zero
  rw [z] at b0
  show [UInt8.ofInt ((n:Int)/ 2^24),UInt8.ofInt ((n:Int)/ 2^16),UInt8.ofInt ((n:Int)/ 2^8),UInt8.ofInt ((n:Int)/ 2^0)]=_
  rw [b 24 (by decide),b 16 (by decide),b 8 (by decide),b0]
  rfl
theorem yii {m n:Nat} (hm:m<18446744073709551616) (hn:n<18446744073709551616):beB (m:Int) 8++beB (n:Int) 8=wr (UInt64.ofNat m,UInt64.ofNat n):=by
  have b: ∀{m:Nat},m<18446744073709551616→ ∀k,k<64→UInt8.ofInt ((m:Int)/ 2^k)=(UInt64.ofNat m>>>UInt64.ofNat k).toUInt8:=by
    intro m hm k hk
    have hv:(UInt64.ofNat m).toNat=m:=by rw [UInt64.toNat_ofNat'];omega
    rw [zd1]
    apply UInt8.toNat_inj.1
    rw [UInt64.toNat_toUInt8,UInt8.toNat_ofNat',zj6 _ hk,hv]
  have e: ∀{m:Nat},m<18446744073709551616→beB (m:Int) 8= [(UInt64.ofNat m>>>UInt64.ofNat 56).toUInt8,(UInt64.ofNat m>>>UInt64.ofNat 48).toUInt8,(UInt64.ofNat m>>>UInt64.ofNat 40).toUInt8,(UInt64.ofNat m>>>UInt64.ofNat 32).toUInt8,(UInt64.ofNat m>>>UInt64.ofNat 24).toUInt8,(UInt64.ofNat m>>>UInt64.ofNat 16).toUInt8,(UInt64.ofNat m>>>UInt64.ofNat 8).toUInt8,(UInt64.ofNat m>>>UInt64.ofNat 0).toUInt8]:=by
    intro m hm
    show [UInt8.ofInt ((m:Int)/ 2^56),UInt8.ofInt ((m:Int)/ 2^48),UInt8.ofInt ((m:Int)/ 2^40),UInt8.ofInt ((m:Int)/ 2^32),UInt8.ofInt ((m:Int)/ 2^24),UInt8.ofInt ((m:Int)/ 2^16),UInt8.ofInt ((m:Int)/ 2^8),UInt8.ofInt ((m:Int)/ 2^0)]=_
    rw [b hm 56 (by decide),b hm 48 (by decide),b hm 40 (by decide),b hm 32 (by decide),b hm 24 (by decide),b hm 16 (by decide),b hm 8 (by decide),b hm 0 (by decide)]
  rw [e hm,e hn]
  rfl
def zbt (l:List UInt8):List UInt8:=l++List.replicate (16-l.length) 0
theorem zy0 {l:List UInt8} (h:l.length=16):zbt l=l:=by unfold zbt;rw [h];simp
def zic (T F:List UInt64) (y:El) (B:List UInt8):Nat→El
  |0=>y
  |t+1=>zgz T F (xr (ld (zbt ((B.drop (16*t)).take 16))) (zic T F y B t))
def gaB (T F:List UInt64) (y:El) (B:List UInt8):El:=zic T F y B ((B.length+15)/ 16)
def zha (h:El) (s:List UInt8):Nat→El
  |0=>z0
  |t+1=>zpv h (xr (zha h s t) (ld ((s.drop (16*t)).take 16)))
def za9 (n:Nat):List UInt8:=List.replicate ((16-n%16)%16) 0
theorem zfk (n:Nat):(za9 n).length=(16-n%16)%16:=List.length_replicate
theorem ztv (h:El) (A B C:List UInt8) (y:El) {n:Nat} (hA:A.length=16*n) (hy:y=zha h (A++(B++za9 B.length)++C) n): ∀t,t≤(B.length+15)/ 16→
    zic (tb h) fl y B t=zha h (A++(B++za9 B.length)++C) (n+t)
  |0,_=>hy
  |t+1,ht=>by
   have ih:=ztv h A B C y hA hy t (by omega)
   show zgz (tb h) fl (xr (ld (zbt ((B.drop (16*t)).take 16))) (zic (tb h) fl y B t))=zpv h (xr (zha h (A++(B++za9 B.length)++C) (n+t)) (ld (((A++(B++za9 B.length)++C).drop (16*(n+t))).take 16)))
   rw [ih,z0m,zsz]
   congr 3
   have hfl:=zfk B.length
   have e1:(A++(B++za9 B.length)++C).drop (16*(n+t))=(B++za9 B.length).drop (16*t)++C:=by
     rw [List.append_assoc,show 16*(n+t)=A.length+16*t by omega,List.drop_append]
     have h1:List.drop (A.length+16*t) A= []:=List.drop_eq_nil_of_le (by omega)
     rw [h1,List.nil_append,show A.length+16*t-A.length=16*t by omega,List.drop_append_of_le_length (by rw [List.length_append,hfl];omega)]
   have hl2:((B++za9 B.length).drop (16*t)).length=B.length+(za9 B.length).length-16*t:=by rw [List.length_drop,List.length_append]
   rw [e1,List.take_append_of_le_length (by rw [hl2,hfl];omega)]
   unfold zbt
   by_cases h16:16*t+16≤B.length
   ·rw [List.drop_append_of_le_length (by omega),List.take_append_of_le_length (by rw [List.length_drop];omega)]
    rw [show 16-((B.drop (16*t)).take 16).length=0 by rw [List.length_take,List.length_drop];omega]
    simp
   ·have e2:(B.drop (16*t)).take 16=B.drop (16*t):=List.take_of_length_le (by rw [List.length_drop];omega)
    rw [e2,List.drop_append_of_le_length (by omega),List.take_of_length_le (by rw [List.length_append,List.length_drop,hfl];omega)]
    unfold za9
    rw [List.length_drop]
    congr 2
    omega
def zqs (aad b:List UInt8):List UInt8:=aad++za9 aad.length++(b++za9 b.length)++wr (UInt64.ofNat (8*aad.length),UInt64.ofNat (8*b.length))
def gN (aad b:List UInt8):Nat:=(aad.length+15)/ 16+(b.length+15)/ 16+1
theorem z97 (aad b:List UInt8):(zqs aad b).length=16*gN aad b:=by
  unfold zqs gN
  have h1:=zfk aad.length
  have h2:=zfk b.length
  have h3:=zi1 (UInt64.ofNat (8*aad.length),UInt64.ofNat (8*b.length))
  simp only [List.length_append]
  omega
theorem ygl (h:El) (aad b:List UInt8):
    zgz (tb h) fl (xr (ld (wr (UInt64.ofNat (8*aad.length),UInt64.ofNat (8*b.length)))) (gaB (tb h) fl (gaB (tb h) fl z0 aad) b))=zha h (zqs aad b) (gN aad b):=by
  obtain ⟨L,hL⟩: ∃L,L=wr (UInt64.ofNat (8*aad.length),UInt64.ofNat (8*b.length)):=⟨_,rfl⟩
  have hLl:L.length=16:=by rw [hL];exact zi1 _
  have h1:=zfk aad.length
  have h2:=zfk b.length
  have p1:=ztv h [] aad ((b++za9 b.length)++L) z0 (n:=0) rfl rfl ((aad.length+15)/ 16) (Nat.le_refl _)
  have hA:(aad++za9 aad.length).length=16*((aad.length+15)/ 16):=by rw [List.length_append,h1];omega
  have e1: []++(aad++za9 aad.length)++((b++za9 b.length)++L)=aad++za9 aad.length++(b++za9 b.length)++L:=by
    rw [List.nil_append,List.append_assoc (aad++za9 aad.length)]
  rw [e1,Nat.zero_add] at p1
  have p2:=ztv h (aad++za9 aad.length) b L (gaB (tb h) fl z0 aad) (n:=(aad.length+15)/ 16) hA p1 ((b.length+15)/ 16) (Nat.le_refl _)
  have hT:zqs aad b=aad++za9 aad.length++(b++za9 b.length)++L:=by unfold zqs;rw [hL]
  rw [←hL,hT]
  show _=zpv h (xr (zha h _ ((aad.length+15)/ 16+(b.length+15)/ 16)) (ld ((List.drop (16*((aad.length+15)/ 16+(b.length+15)/ 16)) _).take 16)))
  rw [←p2,z0m,zsz]
  have hd:List.drop (16*((aad.length+15)/ 16+(b.length+15)/ 16)) (aad++za9 aad.length++(b++za9 b.length)++L)=L:=by
    apply List.drop_left'
    simp only [List.length_append]
    omega
  rw [hd,List.take_of_length_le (by omega)]
  rfl
end Go.Sym.Gcm

namespace Go.Sym.Z
open Go Go.Proofs.Tryz Go.Sym.Lp Go.Sym.Gcm
set_option maxRecDepth 100000
attribute [local irreducible] ldE zml
def yg1:List (Nat×List PStep):= [(5,[⟨0,[]⟩,⟨1,[]⟩,⟨2,[]⟩,⟨3,[0,1,2]⟩,⟨4,[0,1,2,3]⟩,⟨5,[0,1,2]⟩,⟨6,[0,1,2]⟩,⟨7,[0,1,2]⟩,⟨8,[]⟩,⟨9,[]⟩,⟨10,[]⟩]),(6,[⟨0,[]⟩,⟨1,[]⟩,⟨2,[]⟩,⟨3,[0,1,2]⟩,⟨4,[0,1,2,3]⟩,⟨5,[0,1,2,3]⟩,⟨6,[0,1,2]⟩,⟨7,[0,1,2]⟩,⟨8,[0,1,2]⟩,⟨9,[]⟩,⟨10,[]⟩,⟨11,[]⟩])]
def yi6:List (Nat×List PStep):= []
def ygy:List (Nat×List PStep):= [(5,[⟨0,[]⟩,⟨1,[0]⟩,⟨2,[0]⟩,⟨3,[0,1,2]⟩,⟨4,[0,1,2]⟩,⟨5,[0,1,2,3,4]⟩,⟨6,[0,1,2,3,4]⟩,⟨7,[0,1,2,3,4]⟩,⟨8,[0,1,2]⟩,⟨9,[0,1,2]⟩,⟨10,[0,1,2,3,4,5,6,7,8,9]⟩,⟨11,[0,1,2,3,4,5,6,7,8,9]⟩,⟨12,[0,1,2,3,4,5,6,7,8,9,10,11]⟩,⟨13,[0,1,2,3,4,5,6,7,8,9,10,11]⟩,⟨14,[0,1,2,3,4,5,6,7,8,9,10,11]⟩,⟨15,[0,1,2,3,4,5,6,7,8,9]⟩,⟨16,[0,1,2,3,4,5,6,7,8,9]⟩,⟨17,[1,2,10,11,12,13,14,15,16]⟩,⟨18,[1,2,10,11,12,13,14,15,16]⟩,⟨19,[]⟩,⟨20,[]⟩])]
def yh2:List (Nat×TyI):= [(3,ty3),(4,ty4),(5,ty5),(9,ty9),(48,zd6),(99,xj),(113,xw),(51,zeb),(168,zif),(183,zer),(201,zou),(195,zo6),(198,zn7),(199,zp6),(186,zmf),(134,zl3),(178,zj2),(216,zjl),(214,zju),(212,zki)]
theorem y5: ∀t i,y8 yh2 t=some i→yt prog t i:=(zc zbg (zc zbj (zc zbc (zc zbf (zc zaq (zc za6 (zc zai (zc zap (zc zkd (zc zwy (zc z4d (zc z9e (zc z9w (zc z5m (zc zw0 (zc zv5 (zc zob (zc zp0 (zc zon (zc znm x1))))))))))))))))))))
def zyi:Spec:=fun args hp K=>match args,hp with
  | [.sl 0 0 0 o n c],[.mk t [.arr8 m l]]=>Pre (16≤n∧off o+n≤l.length) (K (.agg [.u64 (ld ((l.drop (off o)).take 16)).1,.u64 (ld ((l.drop (off o)).take 16)).2]) [.mk t [.arr8 m l]])
  |_,_=>False
theorem z04:zp prog 136 zyi:=by
  refine zm y5 zi rfl func136 rfl call136 (D:=yg1) ?_ ?_
  ·intro args hp K h
   unfold zyi at h
   split at h
   ·exact Nat.le_of_ble_eq_true rfl
   ·exact h.elim
  ·intro args hp K h
   unfold zyi at h
   split at h
   ·rename_i o n c t m l
    obtain ⟨⟨hn,hl⟩,h⟩:=zq h
    refine za ?_
    refine zt (Ix (8)) (fun q=>⟨[(0,.sl 0 0 0 o n c),(2,.ptr 1 0 0 []),(3,.ptr 2 0 0 []),(5,.int q.i)],[.mk t [.arr8 m l],.mk 183 [.u64 0,.u64 0],.mk 183 [.u64 (ldE ((l.drop (off o)).take 16) q.i).1,.u64 (ldE ((l.drop (off o)).take 16) q.i).2]]⟩) (fun q=>(8)-q.i) ⟨0,Nat.zero_le _⟩ [0,1,2] ?_ ?_
    ·repeat ((conv=>whnf);refine zb ?_)
     conv=>whnf
     exact zo (congrArg (fun e:El=>SV.agg [SV.u64 e.1,SV.u64 e.2]) (show z0=ldE _ 0 by unfold ldE;rfl))
    ·intro q
     have hi:=q.hi
     have hA:off (yb o ((q.i:Int)).toNat ty5.sz)=off o+q.i:=by rw [zy];show off o+((q.i:Int)).toNat*1=_;omega
     have hB:off (yb o ((8:Int)+(q.i:Int)).toNat ty5.sz)=off o+(8+q.i):=by rw [zy];show off o+((8:Int)+(q.i:Int)).toNat*1=_;omega
     by_cases h4:q.i<8
     ·refine za ?_
      refine ⟨⟨q.i+1,h4⟩,[0,1,2],by show (8)-(q.i+1)<(8)-q.i;omega,?_⟩
      repeat ((conv=>whnf);refine zb ?_)
      conv=>whnf
      exact zo (congrArg (fun e:El=>SV.agg [SV.u64 e.1,SV.u64 e.2]) (show (_,_)=ldE ((l.drop (off o)).take 16) (q.i+1) by simp only [ldE];rw [zgy (by omega),zgy (by omega),←hA,←hB];rfl))
     ·have e4:q.i=8:=by omega
      rw [e4]
      refine za ?_
      exact zf [0] h
   ·exact h.elim
def zyf:Spec:=fun args hp K=>match args,hp with
  | [.agg [.u64 a,.u64 b]],[]=>K (.agg [.u64 (yl (a,b)).1,.u64 (yl (a,b)).2]) []
  |_,_=>False
theorem yao:zp prog 166 zyf:=by
  refine zm y5 zi rfl func166 rfl call166 (D:=yi6) ?_ ?_
  ·intro args hp K h
   unfold zyf at h
   split at h
   ·exact Nat.le_of_ble_eq_true rfl
   ·exact h.elim
  ·intro args hp K h
   unfold zyf at h
   split at h
   ·rename_i a b
    refine za ?_
    conv=>whnf
    exact zf [] h
   ·exact h.elim
def zt1:Spec:=fun args hp K=>match args,hp with
  | [.agg [.u64 a,.u64 b]],[]=>K (.arr8 16 (wr (a,b))) []
  |_,_=>False
theorem z8k:zp prog 148 zt1:=by
  refine zm y5 zi rfl func148 rfl call148 (D:=ygy) ?_ ?_
  ·intro args hp K h
   unfold zt1 at h
   split at h
   ·exact Nat.le_of_ble_eq_true rfl
   ·exact h.elim
  ·intro args hp K h
   unfold zt1 at h
   split at h
   ·rename_i a b
    refine za ?_
    refine zt (Ix (8)) (fun q=>⟨[(0,.agg [.u64 a,.u64 b]),(1,.ptr 0 0 0 []),(2,.ptr 1 0 0 []),(3,.ptr 2 0 0 []),(5,.int q.i)],[.mk 183 [.u64 a,.u64 b],.mk 168 [.arr8 16 (List.replicate 16 0)],.mk 168 [.arr8 16 (zml (a,b) q.i)]]⟩) (fun q=>(8)-q.i) ⟨0,Nat.zero_le _⟩ [0,1,2] ?_ ?_
    ·repeat ((conv=>whnf);refine zb ?_)
     conv=>whnf
     exact zo (congrArg (fun x=>SV.agg [SV.arr8 16 x]) (show List.replicate 16 0=zml (a,b) 0 by unfold zml;rfl))
    ·intro q
     have hi:=q.hi
     have hl:=zwa (a,b) q.i
     have hA:off (yb [] ((q.i:Int)).toNat ty5.sz)=q.i:=by rw [zy];show 0+((q.i:Int)).toNat*1=_;omega
     have hB:off (yb [] ((8:Int)+(q.i:Int)).toNat ty5.sz)=(8+q.i):=by rw [zy];show 0+((8:Int)+(q.i:Int)).toNat*1=_;omega
     have hK:((56:Int)-8*(q.i:Int)).toNat=56-8*q.i:=by omega
     by_cases h4:q.i<8
     ·refine za ?_
      refine ⟨⟨q.i+1,h4⟩,[0,1,2],by show (8)-(q.i+1)<(8)-q.i;omega,?_⟩
      repeat ((conv=>whnf);refine zb ?_)
      conv=>whnf
      exact zo (congrArg (fun x=>SV.agg [SV.arr8 16 x]) (show _=zml (a,b) (q.i+1) by rw [yfn,hA,hB,hK]))
     ·have e4:q.i=8:=by omega
      rw [e4]
      refine za ?_
      exact zf [] h
   ·exact h.elim
end Go.Sym.Z

namespace Go.Sym.Z
open Go Go.Proofs.Tryz Go.Sym.Lp Go.Sym.Gcm
set_option maxRecDepth 100000
attribute [local irreducible] ldE zml ld yl hf4 zgm
def yi5:List (Nat×List PStep):= [(2,[⟨0,[]⟩,⟨1,[0]⟩,⟨2,[0]⟩,⟨3,[]⟩]),(9,[⟨0,[]⟩,⟨1,[0]⟩,⟨2,[1]⟩,⟨3,[1]⟩,⟨4,[]⟩,⟨5,[]⟩,⟨6,[]⟩,⟨7,[0,1,2,3,4,5,6]⟩,⟨8,[0,1,2,3,4,5,6]⟩,⟨9,[]⟩,⟨10,[1,2,3,4,5,6,7,8,9]⟩,⟨11,[1,2,3,4,5,6,7,8,9]⟩,⟨12,[]⟩,⟨13,[]⟩,⟨14,[]⟩]),(10,[⟨0,[]⟩,⟨1,[0]⟩,⟨2,[1]⟩,⟨3,[1]⟩,⟨4,[]⟩,⟨5,[]⟩,⟨6,[]⟩,⟨7,[0,1,2,3,4,5,6]⟩,⟨8,[0,1,2,3,4,5,6]⟩,⟨9,[]⟩,⟨10,[1,2,3,4,5,6,7,8,9]⟩,⟨11,[1,2,3,4,5,6,7,8,9]⟩,⟨12,[]⟩,⟨13,[]⟩,⟨14,[]⟩]),(22,[⟨0,[]⟩,⟨1,[0]⟩,⟨2,[0,1]⟩,⟨3,[0,1]⟩,⟨4,[1,2,3]⟩,⟨5,[1,2,3]⟩,⟨6,[]⟩,⟨7,[]⟩])]
def yhw:List (Nat×List PStep):= [(1,[⟨0,[]⟩,⟨1,[]⟩,⟨2,[0,1]⟩,⟨3,[0,1]⟩,⟨4,[0,1]⟩,⟨5,[0,1]⟩,⟨6,[0,1]⟩,⟨7,[]⟩,⟨8,[]⟩,⟨9,[]⟩]),(2,[⟨0,[]⟩,⟨1,[]⟩,⟨2,[0,1]⟩,⟨3,[0,1]⟩,⟨4,[0,1]⟩,⟨5,[0,1]⟩,⟨6,[0,1]⟩,⟨7,[]⟩,⟨8,[]⟩,⟨9,[]⟩]),(10,[⟨0,[]⟩,⟨1,[]⟩,⟨2,[]⟩,⟨3,[0,1,2]⟩,⟨4,[0,1,2,3]⟩,⟨5,[0,1,2,3]⟩,⟨6,[0,1,2,3]⟩,⟨7,[0,1,2,4,5,6]⟩,⟨8,[0,1,2,4,5,6]⟩,⟨9,[0,1,2]⟩,⟨10,[0,1,2]⟩,⟨11,[]⟩,⟨12,[0,1,2,3,4,5,6,7,8,9,10,11]⟩,⟨13,[0,1,2,3,4,5,6,7,8,9,10,11]⟩,⟨14,[0,1,2,3,4,5,6,7,8,9,10,11]⟩,⟨15,[0,1,2,3,4,5,6,7,8,9,10,11,12,13,14]⟩,⟨16,[0,1,2,3,4,5,6,7,8,9,10,11,12,13,14]⟩,⟨17,[0,1,2,3,4,5,6,7,8,9,10,11,12,13,14]⟩,⟨18,[0,1,2,3,4,5,6,7,8,9,10,11]⟩,⟨19,[]⟩,⟨20,[]⟩]),(11,[⟨0,[]⟩,⟨1,[]⟩,⟨2,[0,1]⟩,⟨3,[0,1,2]⟩,⟨4,[0,1,3]⟩,⟨5,[0,1,3]⟩,⟨6,[0,1]⟩,⟨7,[0,1]⟩,⟨8,[0,1]⟩,⟨9,[]⟩,⟨10,[]⟩,⟨11,[]⟩]),(12,[⟨0,[]⟩,⟨1,[]⟩,⟨2,[0,1]⟩,⟨3,[0,1,2]⟩,⟨4,[0,1,3]⟩,⟨5,[0,1,3]⟩,⟨6,[0,1]⟩,⟨7,[0,1]⟩,⟨8,[0,1]⟩,⟨9,[]⟩,⟨10,[]⟩,⟨11,[]⟩])]
theorem z2w: ∀k,k<4→ ∀i:Nat,i<16→zae .and (i:Int) ((8/ 2^k:Nat):Int)=((i&&&8/ 2^k:Nat):Int):=by decide+kernel
theorem z1c (n:Nat):UInt64.ofInt (n:Int)=UInt64.ofNat n:=by
  apply UInt64.toNat_inj.1
  unfold UInt64.ofInt
  rw [UInt64.toNat_ofNat',UInt64.toNat_ofNat']
  omega
def z7h:Spec:=fun args hp K=>match args,hp with
  | [.agg [.u64 a,.u64 b]],[]=>K (.ptr 0 0 0 []) [.mk 201 [.arr64 32 (tb (a,b)),.arr64 16 fl,.u64 0,.u64 0]]
  |_,_=>False
set_option maxHeartbeats 4000000 in
theorem yei:zp prog 146 z7h:=by
  refine zm y5 (zd yao zi) rfl func146 rfl call146 (D:=yi5) ?_ ?_
  ·intro args hp K h
   unfold z7h at h
   split at h
   ·exact Nat.le_of_ble_eq_true rfl
   ·exact h.elim
  ·intro args hp K h
   unfold z7h at h
   split at h
   ·rename_i a b
    refine za ?_
    refine zt (Ix (4)) (fun q=>⟨[(3,.ptr 1 0 0 []),(4,.int ((8/ 2^q.i:Nat):Int)),(5,.ptr 2 0 0 [])],[.mk 183 [.u64 a,.u64 b],.mk 201 [.arr64 32 (tbO (a,b) q.i),.arr64 16 (List.replicate 16 0),.u64 0,.u64 0],.mk 183 [.u64 (Nat.repeat yl q.i (a,b)).1,.u64 (Nat.repeat yl q.i (a,b)).2]]⟩) (fun q=>(4)-q.i) ⟨0,Nat.zero_le _⟩ [0,1,2] ?_ ?_
    ·exact zn
    ·intro q
     have hi:=q.hi
     by_cases h4:q.i<4
     ·have hb:0<8/ 2^q.i:=by
        have:q.i=0∨q.i=1∨q.i=2∨q.i=3:=by omega
        rcases this with e|e|e|e<;>rw [e]<;>decide
      generalize hB:8/ 2^q.i=bit at*
      refine za ?_
      obtain ⟨bn,hbn⟩: ∃bn,bn=8/ 2^(q.i+1):=⟨_,rfl⟩
      have hb8:bn≤8:=by rw [hbn];exact Nat.div_le_self _ _
      have hbt:(bit:Int).tdiv 2=(bn:Int):=by
        rw [hbn,Int.tdiv_eq_ediv_of_nonneg (by omega),Nat.pow_succ,←Nat.div_div_eq_div_mul,hB]
        omega
      have hand: ∀i:Nat,i<16→zae .and (i:Int) (bit:Int)=((i&&&bit:Nat):Int):=by rw [←hB];exact z2w q.i h4
      refine zt (Ix (16)) (fun r=>⟨[(3,.ptr 1 0 0 []),(4,.int (bit:Int)),(5,.ptr 2 0 0 []),(18,.int r.i)],[.mk 183 [.u64 a,.u64 b],.mk 201 [.arr64 32 (tbI bit (Nat.repeat yl q.i (a,b)) (tbO (a,b) q.i) r.i),.arr64 16 (List.replicate 16 0),.u64 0,.u64 0],.mk 183 [.u64 (Nat.repeat yl q.i (a,b)).1,.u64 (Nat.repeat yl q.i (a,b)).2]]⟩) (fun r=>(16)-r.i) ⟨0,Nat.zero_le _⟩ [0,1,2] ?_ ?_
      ·exact zn
      ·intro r
       have hri:=r.hi
       have hlr:=(zjj bit (Nat.repeat yl q.i (a,b)) (tbO (a,b) q.i) r.i).trans (znc (a,b) q.i)
       have hA:off (yb [] ((r.i:Int)).toNat zer.sz)=2*r.i:=by rw [zy];show 0+((r.i:Int)).toNat*2=_;omega
       have hA2:off (yb (yb [] ((r.i:Int)).toNat zer.sz) (0+1) 1)=2*r.i+1:=by rw [zy,hA]
       by_cases h5:r.i<16
       ·have hbb:=hand r.i h5
        by_cases h6:r.i&&&bit=0
        ·have hd:decide (zae .and (r.i:Int) (bit:Int)≠0)=false:=decide_eq_false (by rw [hbb,h6];simp)
         repeat ((conv=>whnf);first|refine zu ?_|refine zg ?_|refine zh ?_|refine zb ?_|refine zr (by first|exact hd) ?_|refine zj (by first|exact hd) ?_|refine zk (by first|exact hd) ?_)
         conv=>whnf
         refine ⟨⟨r.i+1,h5⟩,[0,1,2],by show (16)-(r.i+1)<(16)-r.i;omega,?_⟩
         repeat ((conv=>whnf);refine zb ?_)
         conv=>whnf
         exact zo (congrArg (fun x=>SV.agg [SV.arr64 32 x,SV.arr64 16 (List.replicate 16 0),SV.u64 0,SV.u64 0]) (show tbI bit (Nat.repeat yl q.i (a,b)) (tbO (a,b) q.i) r.i=tbI bit (Nat.repeat yl q.i (a,b)) (tbO (a,b) q.i) (r.i+1) by simp only [tbI];rw [if_pos h6]))
        ·have hd:decide (zae .and (r.i:Int) (bit:Int)≠0)=true:=decide_eq_true (by rw [hbb];omega)
         repeat ((conv=>whnf);first|refine zu ?_|refine zg ?_|refine zh ?_|refine zb ?_|refine zr (by first|exact hd) ?_|refine zj (by first|exact hd) ?_|refine zk (by first|exact hd) ?_)
         conv=>whnf
         conv=>whnf
         refine ⟨⟨r.i+1,h5⟩,[0,1,2],by show (16)-(r.i+1)<(16)-r.i;omega,?_⟩
         repeat ((conv=>whnf);refine zb ?_)
         conv=>whnf
         exact zo (congrArg (fun x=>SV.agg [SV.arr64 32 x,SV.arr64 16 (List.replicate 16 0),SV.u64 0,SV.u64 0]) (show _=tbI bit (Nat.repeat yl q.i (a,b)) (tbO (a,b) q.i) (r.i+1) by simp only [tbI];rw [if_neg h6,hA,hA2];rfl))
       ·have e5:r.i=16:=by omega
        rw [e5]
        have hp2:(2:Int)≠0∧ya ((bit:Int).tdiv 2):=⟨by decide,by rw [hbt];unfold ya;omega⟩
        refine za ?_
        conv=>whnf
        refine ⟨⟨q.i+1,h4⟩,[0,1,3],by show (4)-(q.i+1)<(4)-q.i;omega,?_⟩
        repeat ((conv=>whnf);refine zb ?_)
        conv=>whnf
        refine zv (congrArg (fun x=>SV.agg [SV.arr64 32 x,SV.arr64 16 (List.replicate 16 0),SV.u64 0,SV.u64 0]) (show tbI bit (Nat.repeat yl q.i (a,b)) (tbO (a,b) q.i) 16=tbI (8/ 2^q.i) (Nat.repeat yl q.i (a,b)) (tbO (a,b) q.i) 16 by rw [hB])) ?_
        repeat ((conv=>whnf);refine zb ?_)
        conv=>whnf
        exact zo (congrArg SV.int (show (bit:Int).tdiv 2=((8/ 2^(q.i+1):Nat):Int) by rw [hbt,hbn]))
     ·have e4:q.i=4:=by omega
      rw [e4]
      refine za ?_
      refine zt (Ix (16)) (fun r=>⟨[(3,.ptr 1 0 0 []),(55,.int r.i)],[.mk 183 [.u64 a,.u64 b],.mk 201 [.arr64 32 (tbO (a,b) 4),.arr64 16 (ovr (List.replicate 16 0) 0 zgm r.i),.u64 0,.u64 0],.mk 183 [.u64 (Nat.repeat yl 4 (a,b)).1,.u64 (Nat.repeat yl 4 (a,b)).2]]⟩) (fun r=>(16)-r.i) ⟨0,Nat.zero_le _⟩ [0,1,2] ?_ ?_
      ·exact zn
      ·intro r
       have hri:=r.hi
       by_cases h5:r.i<16
       ·have hlo:=yg (l:=List.replicate 16 (0:UInt64)) (a:=0) (i:=r.i) (by rw [List.length_replicate];omega) zgm
        rw [List.length_replicate] at hlo
        have hI:((r.i:Int)).toNat=r.i:=Int.toNat_natCast _
        refine za ?_
        rw [z1c]
        refine zt (Ix (4)) (fun s=>⟨[(3,.ptr 1 0 0 []),(55,.int r.i),(7,.int r.i),(8,.ptr 3 0 0 []),(61,.int s.i)],[.mk 183 [.u64 a,.u64 b],.mk 201 [.arr64 32 (tbO (a,b) 4),.arr64 16 (ovr (List.replicate 16 0) 0 zgm r.i),.u64 0,.u64 0],.mk 183 [.u64 (Nat.repeat yl 4 (a,b)).1,.u64 (Nat.repeat yl 4 (a,b)).2],.mk 183 [.u64 (Nat.repeat yl s.i (0,UInt64.ofNat r.i)).1,.u64 (Nat.repeat yl s.i (0,UInt64.ofNat r.i)).2]]⟩) (fun s=>(4)-s.i) ⟨0,Nat.zero_le _⟩ [0,1,2,3] ?_ ?_
        ·exact zn
        ·intro s
         have hsi:=s.hi
         by_cases h6:s.i<4
         ·refine za ?_
          refine ⟨⟨s.i+1,h6⟩,[0,1,2,3],by show (4)-(s.i+1)<(4)-s.i;omega,?_⟩
          exact zn
         ·have e6:s.i=4:=by omega
          rw [e6]
          refine za ?_
          refine ⟨⟨r.i+1,h5⟩,[0,1,2],by show (16)-(r.i+1)<(16)-r.i;omega,?_⟩
          repeat ((conv=>whnf);refine zb ?_)
          conv=>whnf
          refine zv (congrArg (fun x=>SV.agg [SV.arr64 32 (tbO (a,b) 4),SV.arr64 16 x,SV.u64 0,SV.u64 0]) (z9 (by rw [List.length_replicate];omega) ?hv ?hkk)) ?_
          case hkk=>show ((r.i:Int)).toNat=0+r.i;omega
          case hv=>unfold zgm hf4;rfl
          exact zn
       ·have e5:r.i=16:=by omega
        have hfl:ovr (List.replicate 16 0) 0 zgm 16=fl:=y4 List.length_replicate zgm
        rw [e5,hfl]
        refine za ?_
        conv=>whnf
        exact zf [1] h
   ·exact h.elim
def z7e:Spec:=fun args hp K=>match args,hp with
  | [.ptr 0 0 0 [],.sl 1 0 0 o n c],[.mk t0 [.arr64 32 T,.arr64 16 F,.u64 y1,.u64 y2],.mk t [.arr8 m l]]=>Pre (T.length=32∧F.length=16∧16≤n∧off o+n≤l.length)
      (K (.tup []) [.mk t0 [.arr64 32 T,.arr64 16 F,.u64 (zgz T F (xr (ld ((l.drop (off o)).take 16)) (y1,y2))).1,.u64 (zgz T F (xr (ld ((l.drop (off o)).take 16)) (y1,y2))).2],.mk t [.arr8 m l]])
  |_,_=>False
set_option maxHeartbeats 4000000 in
theorem z6j:zp prog 149 z7e:=by
  refine zm y5 (zd z04 zi) rfl func149 rfl call149 (D:=yhw) ?_ ?_
  ·intro args hp K h
   unfold z7e at h
   split at h
   ·exact Nat.le_of_ble_eq_true rfl
   ·exact h.elim
  ·intro args hp K h
   unfold z7e at h
   split at h
   ·rename_i o n c t0 T F y1 y2 t m l
    obtain ⟨⟨hT,hF,hn,hl⟩,h⟩:=zq h
    refine za ?_
    obtain ⟨X,hX⟩: ∃X,X=xr (ld ((l.drop (off o)).take 16)) (y1,y2):=⟨_,rfl⟩
    have hX1:(ld ((l.drop (off o)).take 16)).1^^^y1=X.1:=by rw [hX];rfl
    have hX2:(ld ((l.drop (off o)).take 16)).2^^^y2=X.2:=by rw [hX];rfl
    rw [←hX] at h
    rw [hX1,hX2]
    refine zt (Ix (32)) (fun q=>⟨[(0,.ptr 0 0 0 []),(4,.ptr 2 0 0 []),(5,.ptr 3 0 0 []),(28,.int q.i)],[.mk t0 [.arr64 32 T,.arr64 16 F,.u64 y1,.u64 y2],.mk t [.arr8 m l],.mk 183 [.u64 X.1,.u64 X.2],.mk 183 [.u64 (zk6 T F X q.i).1,.u64 (zk6 T F X q.i).2]]⟩) (fun q=>(32)-q.i) ⟨0,Nat.zero_le _⟩ [0,1,2,3] ?_ ?_
    ·exact zn
    ·intro q
     have hi:=q.hi
     have hm:(q.i:Int).tmod 16=((q.i%16:Nat):Int):=by rw [Int.tmod_eq_emod_of_nonneg (by omega)];omega
     have hk:(4*(q.i:Int).tmod 16).toNat=4*(q.i%16):=by omega
     have hP:((zk6 T F X q.i).2&&&UInt64.ofNat 15).toNat<16:=by have:=zwh (zk6 T F X q.i).2;exact this ▸ Nat.mod_lt _ (by decide)
     by_cases h4:q.i<32
     ·by_cases h16:16≤q.i
      ·have hdg:X.1>>>UInt64.ofNat (4*(q.i:Int).tmod 16).toNat&&&UInt64.ofNat 15=zi9 X q.i:=by unfold zi9;rw [if_pos h16,hk];rfl
       have hdl:=zoz X q.i
       rw [←hdg] at hdl
       have hO:off (yb [] (X.1>>>UInt64.ofNat (4*(q.i:Int).tmod 16).toNat&&&UInt64.ofNat 15).toNat zer.sz)=2*(X.1>>>UInt64.ofNat (4*(q.i:Int).tmod 16).toNat&&&UInt64.ofNat 15).toNat:=by rw [zy];show 0+_*2=_;omega
       have hO2:off (yb (yb [] (X.1>>>UInt64.ofNat (4*(q.i:Int).tmod 16).toNat&&&UInt64.ofNat 15).toNat zer.sz) (0+1) 1)=2*(X.1>>>UInt64.ofNat (4*(q.i:Int).tmod 16).toNat&&&UInt64.ofNat 15).toNat+1:=by rw [zy,hO]
       refine za ?_
       conv=>whnf
       refine ⟨⟨q.i+1,h4⟩,[0,1,2,3],by show (32)-(q.i+1)<(32)-q.i;omega,?_⟩
       repeat ((conv=>whnf);refine zb ?_)
       conv=>whnf
       exact zo (congrArg (fun e:El=>SV.agg [SV.u64 e.1,SV.u64 e.2]) (show (_,_)=zk6 T F X (q.i+1) by simp only [zk6,stp];rw [←hdg,hO,hO2];rfl))
      ·have hdg:X.2>>>UInt64.ofNat (4*(q.i:Int).tmod 16).toNat&&&UInt64.ofNat 15=zi9 X q.i:=by unfold zi9;rw [if_neg h16,hk];rfl
       have hdl:=zoz X q.i
       rw [←hdg] at hdl
       have hO:off (yb [] (X.2>>>UInt64.ofNat (4*(q.i:Int).tmod 16).toNat&&&UInt64.ofNat 15).toNat zer.sz)=2*(X.2>>>UInt64.ofNat (4*(q.i:Int).tmod 16).toNat&&&UInt64.ofNat 15).toNat:=by rw [zy];show 0+_*2=_;omega
       have hO2:off (yb (yb [] (X.2>>>UInt64.ofNat (4*(q.i:Int).tmod 16).toNat&&&UInt64.ofNat 15).toNat zer.sz) (0+1) 1)=2*(X.2>>>UInt64.ofNat (4*(q.i:Int).tmod 16).toNat&&&UInt64.ofNat 15).toNat+1:=by rw [zy,hO]
       refine za ?_
       conv=>whnf
       refine ⟨⟨q.i+1,h4⟩,[0,1,2,3],by show (32)-(q.i+1)<(32)-q.i;omega,?_⟩
       repeat ((conv=>whnf);refine zb ?_)
       conv=>whnf
       exact zo (congrArg (fun e:El=>SV.agg [SV.u64 e.1,SV.u64 e.2]) (show (_,_)=zk6 T F X (q.i+1) by simp only [zk6,stp];rw [←hdg,hO,hO2];rfl))
     ·have e4:q.i=32:=by omega
      rw [e4]
      have hpm:zk6 T F X 32=zgz T F X:=by unfold zgz;rfl
      rw [hpm]
      refine za ?_
      exact zf [0,1] h
   ·exact h.elim
end Go.Sym.Z

namespace Go.Sym.Gcm
open Go.Sym Go.Sym.Lp
theorem zpf {v:List UInt8} (hv:v.length≤16):zx (List.replicate 16 0) (off []) (List.take (min v.length 16) v)=zbt v:=by
  have h1:List.take (min v.length 16) v=v:=List.take_of_length_le (by omega)
  rw [h1]
  unfold zx zbt
  show List.take 0 _++v++List.drop (0+v.length) _=_
  rw [List.take_zero,List.nil_append,List.drop_replicate,Nat.zero_add]
theorem zrs {v:List UInt8} (hv:v.length≤16):(zbt v).length=16:=by
  unfold zbt;rw [List.length_append,List.length_replicate];omega
theorem z6b {l:List UInt8} {n a:Nat} (h:a+16≤n) (hl:n≤l.length):zbt (((l.take n).drop a).take 16)=(l.drop a).take 16:=by
  rw [List.drop_take,List.take_take,Nat.min_eq_left (by omega)]
  exact zy0 (by rw [List.length_take,List.length_drop];omega)
theorem z1i (T F:List UInt64) (y:El) {l:List UInt8} {n t:Nat} (h:16*t+16≤n) (hl:n≤l.length):
    zic T F y (l.take n) (t+1)=zgz T F (xr (ld ((l.drop (16*t)).take 16)) (zic T F y (l.take n) t)):=by
  rw [zic,z6b h hl]
theorem z1u (T F:List UInt64) (y:El) {l:List UInt8} {n t k:Nat} (h:k+16*t=n) (h0:0<k) (hk:k<16) (hl:n≤l.length):
    gaB T F y (l.take n)=zgz T F (xr (ld (zbt ((l.drop (16*t)).take k))) (zic T F y (l.take n) t)):=by
  unfold gaB
  rw [List.length_take,show (min n l.length+15)/ 16=t+1 by omega,zic,List.drop_take,List.take_take,show min 16 (n-16*t)=k by omega]
theorem z1d (T F:List UInt64) (y:El) {l:List UInt8} {n t:Nat} (h:16*t=n) (hl:n≤l.length):gaB T F y (l.take n)=zic T F y (l.take n) t:=by
  unfold gaB
  rw [List.length_take,show (min n l.length+15)/ 16=t by omega]
end Go.Sym.Gcm

namespace Go.Sym.Z
open Go Go.Proofs.Tryz Go.Sym.Lp Go.Sym.Gcm
set_option maxRecDepth 100000
attribute [local irreducible] ldE zml ld yl hf4 zgm zgz zbt
def yg9:List (Nat×List PStep):= []
def yhi:List (Nat×List PStep):= []
structure Gs (n:Nat) where
  t:Nat
  x:Nat
  k:Nat
  c:Nat
  hn:k+16*t=n
  hx:0<k→x=16*t
  hc:k≤c
def z4n:Spec:=fun args hp K=>match args,hp with
  | [.ptr 0 0 0 [],.sl 1 0 0 [] n c],[.mk t0 [.arr64 32 T,.arr64 16 F,.u64 y1,.u64 y2],.mk t [.arr8 m l]]=>Pre (T.length=32∧F.length=16∧n≤l.length∧n≤c)
      (K (.tup []) [.mk t0 [.arr64 32 T,.arr64 16 F,.u64 (gaB T F (y1,y2) (l.take n)).1,.u64 (gaB T F (y1,y2) (l.take n)).2],.mk t [.arr8 m l]])
  |_,_=>False
set_option maxHeartbeats 4000000 in
theorem yf9:zp prog 147 z4n:=by
  refine zm y5 (zd z6j zi) rfl func147 rfl call147 (D:=yg9) ?_ ?_
  ·intro args hp K h
   unfold z4n at h
   split at h
   ·exact Nat.le_of_ble_eq_true rfl
   ·exact h.elim
  ·intro args hp K h
   unfold z4n at h
   split at h
   ·rename_i n c t0 T F y1 y2 t m l
    obtain ⟨⟨hT,hF,hl,hc⟩,h⟩:=zq h
    have hB:(l.take n).length=n:=by rw [List.length_take];omega
    refine za ?_
    refine zt (Option (Gs n)) (fun q=>match q with
      |none=>⟨[(0,.ptr 0 0 0 []),(1,.sl 1 0 0 [] n c)],[.mk t0 [.arr64 32 T,.arr64 16 F,.u64 y1,.u64 y2],.mk t [.arr8 m l]]⟩
      |some s=>⟨[(0,.ptr 0 0 0 []),(1,.sl 1 0 0 [(s.x,1)] s.k s.c)],[.mk t0 [.arr64 32 T,.arr64 16 F,.u64 (zic T F (y1,y2) (l.take n) s.t).1,.u64 (zic T F (y1,y2) (l.take n) s.t).2],.mk t [.arr8 m l]]⟩)
      (fun q=>match q with|none=>n+1|some s=>s.k) none [0,1] ?_ ?_
    ·exact zn
    ·intro q
     cases q with
     |none=>
      by_cases h4:16≤n
      ·have hp4:T.length=32∧F.length=16∧16≤n∧off []+n≤l.length:=⟨hT,hF,h4,by show 0+_≤_;omega⟩
       refine za ?_
       rw [show zgz T F (xr (ld ((l.drop (off [])).take 16)) (y1,y2))=zic T F (y1,y2) (l.take n) (0+1) by rw [z1i T F (y1,y2) (by omega) hl];rfl]
       refine ⟨some ⟨0+1,slO c 16,n-16,c-16,by omega,fun h0=>by
         have hne:c≠16:=by omega
         rw [y7 hne],by omega⟩,[0,1],by show n-16<n+1;omega,?_⟩
       exact zn
      ·by_cases h0:0<n
       ·have hvl:(List.take n (List.drop (off []) l)).length=n:=by rw [List.length_take,List.length_drop];show min n (l.length-0)=n;omega
        have hsp:=zpf (v:=List.take n (List.drop (off []) l)) (by omega)
        have hpl:=zrs (v:=List.take n (List.drop (off []) l)) (by omega)
        have hpp:T.length=32∧F.length=16∧16≤16∧off []+16≤(zbt (List.take n (List.drop (off []) l))).length:=⟨hT,hF,by decide,by rw [hpl];decide⟩
        have htk:List.take 16 (List.drop (off []) (zbt (List.take n (List.drop (off []) l))))=zbt (List.take n (List.drop (off []) l)):=by show List.take 16 (zbt _)=_;exact List.take_of_length_le (by omega)
        have hla:=z1u T F (y1,y2) (l:=l) (n:=n) (t:=0) (k:=n) (by omega) (by omega) (by omega) hl
        rw [hla] at h
        skip
        refine za ?_
        rw [hsp]
        refine za ?_
        rw [htk]
        conv=>whnf
        exact zf [0,1] h
       ·have hno:=z1d T F (y1,y2) (l:=l) (n:=n) (t:=0) (by omega) hl
        rw [hno] at h
        refine za ?_
        exact zf [0,1] h
     |some s=>
      have hsn:=s.hn
      have hsx:=s.hx
      have hsc:=s.hc
      by_cases h4:16≤s.k
      ·have hp4:T.length=32∧F.length=16∧16≤s.k∧off [(s.x,1)]+s.k≤l.length:=⟨hT,hF,h4,by have:=hsx (by omega);show s.x+_≤_;omega⟩
       have hX:=hsx (by omega)
       refine za ?_
       rw [show zgz T F (xr (ld ((l.drop (off [(s.x,1)])).take 16)) ((zic T F (y1,y2) (l.take n) s.t).1,(zic T F (y1,y2) (l.take n) s.t).2))=zic T F (y1,y2) (l.take n) (s.t+1) by rw [z1i T F (y1,y2) (by omega) hl];rw [←hX];rfl]
       refine ⟨some ⟨s.t+1,s.x+slO s.c 16,s.k-16,s.c-16,by omega,fun h0=>by
         have hne:s.c≠16:=by omega
         rw [y7 hne];omega,by omega⟩,[0,1],by show s.k-16<s.k;omega,?_⟩
       exact zn
      ·by_cases h0:0<s.k
       ·have hX:=hsx h0
        have hvl:(List.take s.k (List.drop (off [(s.x,1)]) l)).length=s.k:=by rw [List.length_take,List.length_drop];show min s.k (l.length-s.x)=s.k;omega
        have hsp:=zpf (v:=List.take s.k (List.drop (off [(s.x,1)]) l)) (by omega)
        have hpl:=zrs (v:=List.take s.k (List.drop (off [(s.x,1)]) l)) (by omega)
        have hpp:T.length=32∧F.length=16∧16≤16∧off []+16≤(zbt (List.take s.k (List.drop (off [(s.x,1)]) l))).length:=⟨hT,hF,by decide,by rw [hpl];decide⟩
        have htk:List.take 16 (List.drop (off []) (zbt (List.take s.k (List.drop (off [(s.x,1)]) l))))=zbt (List.take s.k (List.drop (off [(s.x,1)]) l)):=by show List.take 16 (zbt _)=_;exact List.take_of_length_le (by omega)
        have hla:=z1u T F (y1,y2) (l:=l) (n:=n) (t:=s.t) (k:=s.k) (by omega) (by omega) (by omega) hl
        rw [hla] at h
        rw [←hX] at h
        refine za ?_
        rw [hsp]
        refine za ?_
        rw [htk]
        conv=>whnf
        exact zf [0,1] h
       ·have hno:=z1d T F (y1,y2) (l:=l) (n:=n) (t:=s.t) (by omega) hl
        rw [hno] at h
        refine za ?_
        exact zf [0,1] h
   ·exact h.elim
def zkz:Spec:=fun args hp K=>match args,hp with
  | [.str nonce,.u32 n],[]=>Pre (nonce.length=12) (K (.arr8 16 (ctr nonce n)) [])
  |_,_=>False
theorem zoe:zp prog 139 zkz:=by
  refine zm y5 zi rfl func139 rfl call139 (D:=yhi) ?_ ?_
  ·intro args hp K h
   unfold zkz at h
   split at h
   ·exact Nat.le_of_ble_eq_true rfl
   ·exact h.elim
  ·intro args hp K h
   unfold zkz at h
   split at h
   ·rename_i nonce n
    obtain ⟨hn,h⟩:=zq h
    have hsp:zx (List.replicate 16 0) (off []) (List.take (min nonce.length 16) nonce)=zsr nonce n 0:=by
      obtain ⟨a0,a1,a2,a3,a4,a5,a6,a7,a8,a9,b0,b1,rfl⟩:=zym hn
      rfl
    refine za ?_
    rw [hsp]
    refine zt (Ix (4)) (fun q=>⟨[(0,.str nonce),(1,.u32 n),(4,.ptr 0 0 0 []),(5,.ptr 1 0 0 []),(10,.int q.i)],[.mk 168 [.arr8 16 (List.replicate 16 0)],.mk 168 [.arr8 16 (zsr nonce n q.i)]]⟩) (fun q=>(4)-q.i) ⟨0,Nat.zero_le _⟩ [0,1] ?_ ?_
    ·exact zn
    ·intro q
     have hi:=q.hi
     have hl:=zvx hn n q.i
     have hA:((15:Int)-(q.i:Int)).toNat=15-q.i:=by omega
     have hB:(8*(q.i:Int)).toNat=8*q.i:=by omega
     by_cases h4:q.i<4
     ·refine za ?_
      refine ⟨⟨q.i+1,h4⟩,[0,1],by show (4)-(q.i+1)<(4)-q.i;omega,?_⟩
      repeat ((conv=>whnf);refine zb ?_)
      conv=>whnf
      exact zo (congrArg (fun x=>SV.agg [SV.arr8 16 x]) (show _=zsr nonce n (q.i+1) by simp only [zsr];rw [←hA,←hB];rfl))
     ·have e4:q.i=4:=by omega
      rw [←z9q hn n] at h
      rw [e4]
      refine za ?_
      conv=>whnf
      exact zf [] h
   ·exact h.elim
end Go.Sym.Z
