/-
  Contracts of functions of the program, each said of symbolic values, and plain laws; no condition beyond each statement's own.
-/
import Derived.Test.YtmmpgjcpielefaaGreatG23
import Derived.Test.YtmmpgjcpielefaaGreatG19
set_option linter.unusedSimpArgs false
set_option linter.unusedVariables false
namespace Go.Sym.Sha
open Go.Sym.Lp Go.Sym.Cha Go.Sym.Gcm Go.Sym.Hk
def zie (x:UInt32) (k:Nat):UInt32:=x>>>UInt32.ofNat k|||x<<<UInt32.ofNat (32-k)
theorem zcp {x:UInt32} {k:Nat} (h:k≤32):zie x k=zgu x (32-k):=by
  unfold zie zgu;rw [UInt32.or_comm,show 32-(32-k)=k by omega]
def zih (x:UInt64) (k:Nat):UInt64:=x>>>UInt64.ofNat k|||x<<<UInt64.ofNat (64-k)
theorem zct {x:UInt64} {k:Nat} (h:k≤64):zih x k=zkt x (64-k):=by
  unfold zih zkt;rw [UInt64.or_comm,show 64-(64-k)=k by omega]
theorem ybj (a b c d:UInt8):a.toUInt32<<<24|||b.toUInt32<<<16|||c.toUInt32<<<8|||d.toUInt32=(num [a,b,c,d]).toUInt32:=by
  show _=((((((0:UInt64)<<<8|||a.toUInt64)<<<8|||b.toUInt64)<<<8|||c.toUInt64)<<<8|||d.toUInt64)).toUInt32
  have ha:=a.toNat_lt;have hb:=b.toNat_lt;have hc:=c.toNat_lt;have hd:=d.toNat_lt
  have o: ∀(x y k:Nat),y<2^k→x*2^k|||y=x*2^k+y:=fun x y k h=>by
    rw [Nat.mul_comm,←Nat.two_pow_add_eq_or_of_lt h]
  have s64: ∀(x:UInt64) (y:UInt8),x.toNat<72057594037927936→(x<<<8|||y.toUInt64).toNat=x.toNat*2^8+y.toNat:=by
    intro x y hx
    have hy:=y.toNat_lt
    rw [UInt64.toNat_or,UInt64.toNat_shiftLeft,UInt8.toNat_toUInt64]
    show x.toNat<<<8%2^64|||_=_
    rw [Nat.shiftLeft_eq,Nat.mod_eq_of_lt (by omega),o _ _ _ (by omega)]
  have l32: ∀(y:UInt8) (k:Nat),k≤24→(y.toUInt32<<<UInt32.ofNat k).toNat=y.toNat*2^k:=by
    intro y k hk
    have hy:=y.toNat_lt
    have hk2:(UInt32.ofNat k).toNat=k:=by rw [UInt32.toNat_ofNat'];omega
    rw [UInt32.toNat_shiftLeft,hk2,UInt8.toNat_toUInt32,Nat.mod_eq_of_lt (show k<32 by omega),Nat.shiftLeft_eq]
    have:y.toNat*2^k<2^8*2^24:=Nat.mul_lt_mul_of_lt_of_le (by omega) (Nat.pow_le_pow_right (by decide) hk) (by decide)
    exact Nat.mod_eq_of_lt (by omega)
  apply UInt32.toNat_inj.1
  have e1:((0:UInt64)<<<8|||a.toUInt64).toNat=a.toNat:=by rw [s64 _ _ (by decide)];show 0*2^8+_=_;omega
  have e2:=s64 ((0:UInt64)<<<8|||a.toUInt64) b (by omega)
  have e3:=s64 (((0:UInt64)<<<8|||a.toUInt64)<<<8|||b.toUInt64) c (by omega)
  have e4:=s64 ((((0:UInt64)<<<8|||a.toUInt64)<<<8|||b.toUInt64)<<<8|||c.toUInt64) d (by omega)
  rw [UInt64.toNat_toUInt32,e4,e3,e2,e1,UInt32.toNat_or,UInt32.toNat_or,UInt32.toNat_or,UInt8.toNat_toUInt32]
  have g1:=l32 a 24 (by decide)
  have g2:=l32 b 16 (by decide)
  have g3:=l32 c 8 (by decide)
  have f1:(a.toUInt32<<<24).toNat=a.toNat*2^24:=g1
  have f2:(b.toUInt32<<<16).toNat=b.toNat*2^16:=g2
  have f3:(c.toUInt32<<<8).toNat=c.toNat*2^8:=g3
  rw [f1,f2,f3,o a.toNat (b.toNat*2^16) 24 (by omega),show a.toNat*2^24+b.toNat*2^16=(a.toNat*2^8+b.toNat)*2^16 by omega,o _ (c.toNat*2^8) 16 (by omega),
   show (a.toNat*2^8+b.toNat)*2^16+c.toNat*2^8=((a.toNat*2^8+b.toNat)*2^8+c.toNat)*2^8 by omega,o _ d.toNat 8 (by omega)]
  omega
def K32:List UInt32:= [0x428a2f98,0x71374491,0xb5c0fbcf,0xe9b5dba5,0x3956c25b,0x59f111f1,0x923f82a4,0xab1c5ed5,0xd807aa98,0x12835b01,0x243185be,0x550c7dc3,0x72be5d74,0x80deb1fe,0x9bdc06a7,0xc19bf174,0xe49b69c1,0xefbe4786,0x0fc19dc6,0x240ca1cc,0x2de92c6f,0x4a7484aa,0x5cb0a9dc,0x76f988da,0x983e5152,0xa831c66d,0xb00327c8,0xbf597fc7,0xc6e00bf3,0xd5a79147,0x06ca6351,0x14292967,0x27b70a85,0x2e1b2138,0x4d2c6dfc,0x53380d13,0x650a7354,0x766a0abb,0x81c2c92e,0x92722c85,0xa2bfe8a1,0xa81a664b,0xc24b8b70,0xc76c51a3,0xd192e819,0xd6990624,0xf40e3585,0x106aa070,0x19a4c116,0x1e376c08,0x2748774c,0x34b0bcb5,0x391c0cb3,0x4ed8aa4a,0x5b9cca4f,0x682e6ff3,0x748f82ee,0x78a5636f,0x84c87814,0x8cc70208,0x90befffa,0xa4506ceb,0xbef9a3f7,0xc67178f2]
theorem ycl: ∀i,i<64→K32.getD i 0=(g64 KC i>>>32).toUInt32:=by decide+kernel
def b32 (H:List UInt32) (s:List UInt8):List UInt32:=(List.range 8).map fun i=>g32 H i+g32 (zby KC (y8 s 64) H 64) i
theorem z8c (H:List UInt32) (s:List UInt8):(b32 H s).length=8:=zz _ _
theorem z81 {H:List UInt64} {h:List UInt32} (e:H=h.map UInt32.toUInt64) (hl:h.length=8):((List.range 8).map fun i=>(g64 H i).toUInt32)=h:=by
  subst e
  rw [yi (g':=fun i=>h.getD i 0) (fun i hi=>?_),zdo hl 0]
  unfold g64
  rw [List.getD_eq_getElem?_getD,List.getElem?_map,List.getD_eq_getElem?_getD,List.getElem?_eq_getElem (by omega)]
  show (h[i]).toUInt64.toUInt32=h[i]
  exact UInt32.toUInt32_toUInt64 _
theorem z33 {H:List UInt64} {h:List UInt32} (e:H=h.map UInt32.toUInt64) (hl:h.length=8) (s:List UInt8):zjt KC H s=(b32 h s).map UInt32.toUInt64:=by
  have hu:=z81 e hl
  have hg: ∀i,i<8→(g64 H i).toUInt32=g32 h i:=fun i hi=>by
    have:=congrArg (fun l=>l.getD i 0) hu
    rw [zcv _ _ hi] at this;exact this
  unfold zjt b32
  rw [hu,List.map_map]
  exact yi fun i hi=>by rw [hg i hi];rfl
theorem zow {n:Int} {k h:List UInt64} (A B:List UInt8): ∀t,bk n*t≤A.length→xb n k h (A++B) t=xb n k h A t
  |0,_=>rfl
  |t+1,ht=>by
   have h1:bk n*(t+1)=bk n*t+bk n:=Nat.mul_succ _ _
   show zam _ _ _ _=zam _ _ _ _
   rw [zow A B t (by omega),List.drop_append_of_le_length (by omega),List.take_append_of_le_length (by rw [List.length_drop];omega)]
theorem drp {A B:List UInt8} {a:Nat} (h:A.length=a) (k:Nat):(A++B).drop (a+k)=B.drop k:=by
  subst h;rw [List.drop_append,List.drop_of_length_le (by omega),List.nil_append,Nat.add_sub_cancel_left]
theorem zur {n:Int} {k h:List UInt64} {A B:List UInt8} {a:Nat} (hA:A.length=bk n*a): ∀t,xb n k h (A++B) (a+t)=xb n k (xb n k h A a) B t
  |0=>zow A B a (by omega)
  |t+1=>by
   show zam n k (xb n k h (A++B) (a+t)) (((A++B).drop (bk n*(a+t))).take (bk n))=zam n k (xb n k (xb n k h A a) B t) ((B.drop (bk n*t)).take (bk n))
   rw [zur hA t,Nat.mul_add,drp hA]
def ycb (n:Int) (h:List UInt64) (T:List UInt8):List UInt64:=xb n KC h T (T.length/ bk n)
theorem yac {n:Int} {h:List UInt64} (R s u:List UInt8):wrH n KC (wrH n KC h R s) (wrR n R s) u=wrH n KC h R (s++u)∧wrR n (wrR n R s) u=wrR n R (s++u):=by
  have hb:=zxt n
  unfold wrH wrR
  generalize hX:R++s=X
  have hq:=Nat.div_add_mod X.length (bk n)
  have hql:bk n*(X.length/ bk n)≤X.length:=by omega
  have hsplit:X++u=X.take (bk n*(X.length/ bk n))++(X.drop (bk n*(X.length/ bk n))++u):=by rw [←List.append_assoc,List.take_append_drop]
  have hTl:(X.take (bk n*(X.length/ bk n))).length=bk n*(X.length/ bk n):=by rw [List.length_take];omega
  have hlen:(X++u).length/ bk n=X.length/ bk n+(X.drop (bk n*(X.length/ bk n))++u).length/ bk n:=by
    rw [hsplit,@List.length_append UInt8 (X.take (bk n*(X.length/ bk n))),hTl,Nat.mul_add_div hb]
  have hT:xb n KC h X (X.length/ bk n)=xb n KC h (X.take (bk n*(X.length/ bk n))) (X.length/ bk n):=by
    have:=zow (n:=n) (k:=KC) (h:=h) (X.take (bk n*(X.length/ bk n))) (X.drop (bk n*(X.length/ bk n))) (X.length/ bk n) (by omega)
    rw [List.take_append_drop] at this;exact this
  rw [←List.append_assoc,hX]
  constructor
  ·rw [hlen,hsplit,zur hTl,hT]
  ·rw [hlen,hsplit,Nat.mul_add,drp hTl]
theorem zvr {n:Int} (s:List UInt8):x4 n s=(zgh (ycb n (HB n) (s++ziy n (wrR n [] s).length (UInt64.ofNat s.length))) (bk n/ 16)).take (n/ 8).toNat:=by
  unfold x4 zei
  rw [(yac [] s _).1]
  rfl
theorem zy6 {n:Int} {p:List UInt8} (hp:p.length=bk n) (s:List UInt8) (hs:s.length<9223372036854775808):dgF n (wrH n KC (HB n) [] p) s=x4 n (p++s):=by
  have h0:wrR n [] p= []:=List.length_eq_zero_iff.1 (by rw [zfn,hp];show (0+bk n)%bk n=0;rw [Nat.zero_add,Nat.mod_self])
  obtain ⟨h1,h2⟩:=yac (n:=n) (h:=HB n) [] p s
  rw [h0] at h1 h2
  unfold dgF x4
  rw [h1,h2,List.length_append,hp]
  congr 1
  exact (UInt64.ofNat_add _ _).symm
theorem z61 {n:Int} (key s:List UInt8) (hs:s.length<4611686018427387904) (hn:n=256∨n=384):zoe n key s=x4 n (pdX (bk n) (kN n key) 92++x4 n (pdX (bk n) (kN n key) 54++s)):=by
  unfold zoe mP
  rw [zy6 (zar _ _ _) _ (by rw [zmd hn];unfold dl;split<;>decide),zy6 (zar _ _ _) s (by omega)]
end Go.Sym.Sha
namespace Go.Sym.Sha
open Go.Sym.Lp Go.Sym.Cha Go.Sym.Gcm Go.Sym.Hk
theorem z48 {m:Nat} (hm:m<18446744073709551616) {k:Nat} (hk:k<64):UInt8.ofInt ((m:Int)/ 2^k)=(UInt64.ofNat m>>>UInt64.ofNat k).toUInt8:=by
  have hv:(UInt64.ofNat m).toNat=m:=by rw [UInt64.toNat_ofNat'];omega
  rw [zdp]
  apply UInt8.toNat_inj.1
  rw [UInt64.toNat_toUInt8,UInt8.toNat_ofNat',zja _ hk,hv]
theorem zuy (L:Nat) (all:UInt64) (j:Nat): ∀i,i<L→(zcm L all i)[j]?=if L-i≤j∧j<L then some ((all*8)>>>UInt64.ofNat (8*(L-1-j))).toUInt8 else ((List.replicate L (0:UInt8)).set 0 128)[j]?
  |0,_=>by rw [if_neg (by omega)];rfl
  |i+1,h=>by
   show ((zcm L all i).set (L-1-i) _)[j]?=_
   rw [List.getElem?_set,zdz,zuy L all j i (by omega)]
   by_cases e:L-1-i=j
   ·rw [if_pos e,if_pos (by omega),if_pos (by omega),show L-1-j=i by omega]
   ·rw [if_neg e]
    by_cases h2:L-i≤j∧j<L
    ·rw [if_pos h2,if_pos (by omega)]
    ·rw [if_neg h2,if_neg (by omega)]
theorem z0s {n:Int} {r l:Nat} (h9:9≤zbl n r) (hl:l<2305843009213693952):ziy n r (UInt64.ofNat l)=128 ::(List.replicate (zbl n r-9) 0++beB ((8*l:Nat):Int) 8):=by
  generalize hL:zbl n r=L at h9
  have hm:UInt64.ofNat l*8=UInt64.ofNat (8*l):=by rw [Nat.mul_comm];exact (UInt64.ofNat_mul _ _).symm
  unfold ziy
  rw [hL]
  apply List.ext_getElem?
  intro j
  rw [zuy L _ j 8 (by omega)]
  by_cases h1:L-8≤j∧j<L
  ·rw [if_pos h1,hm]
   obtain ⟨k,hk⟩: ∃k,j=1+(L-9)+k:=⟨j-(1+(L-9)),by omega⟩
   rw [show j=(L-9+k)+1 by omega,List.getElem?_cons_succ,List.getElem?_append_right (by rw [List.length_replicate];omega),List.length_replicate,show L-9+k-(L-9)=k by omega]
   unfold beB
   rw [List.getElem?_map,List.getElem?_range (by omega),Option.map_some,z48 (by omega) (by omega)]
   congr 5;omega
  ·rw [if_neg h1]
   cases j with
   |zero=>rw [List.getElem?_set_self (by rw [List.length_replicate];omega)];rfl
   |succ j=>
    rw [List.getElem?_set_ne (by omega),List.getElem?_cons_succ,List.getElem?_replicate]
    by_cases h2:j+1<L
    ·rw [if_pos h2,List.getElem?_append_left (by rw [List.length_replicate];omega),List.getElem?_replicate,if_pos (by omega)]
    ·rw [if_neg h2,List.getElem?_append_right (by rw [List.length_replicate];omega),List.getElem?_eq_none (by rw [zat,List.length_replicate];omega)]
def zR (n:Int) (l:Nat):Nat:=(bk n-(l+1+bk n/ 8)%bk n)%bk n+bk n/ 8-8
theorem zxi (n:Int):bk n=64∨bk n=128:=by unfold bk;split<;>simp
theorem z82 {n:Int} (l:Nat):zbl n (l%bk n)=zR n l+9:=by
  unfold zbl zR
  rcases zxi n with e|e<;>rw [e]<;>omega
def zf9 (n:Int) (s:List UInt8):List UInt8:=s++128 ::(List.replicate (zR n s.length) 0++beB ((8*s.length:Nat):Int) 8)
theorem zyr {n:Int} {s:List UInt8} (h:s.length<2305843009213693952):s++ziy n (wrR n [] s).length (UInt64.ofNat s.length)=zf9 n s:=by
  have e:(wrR n [] s).length=s.length%bk n:=by rw [zfn];show (0+s.length)%_=_;rw [Nat.zero_add]
  have hp:=z82 (n:=n) s.length
  rw [e,z0s (by omega) h,hp]
  rfl
theorem zui {n:Int} (s:List UInt8):(zf9 n s).length%bk n=0∧s.length≤(zf9 n s).length∧(zf9 n s).length≤s.length+300:=by
  unfold zf9
  rw [List.length_append,List.length_cons,List.length_append,List.length_replicate,zat]
  unfold zR
  rcases zxi n with e|e<;>rw [e]<;>omega
def zds (w:List UInt64) (size i:Nat):List UInt8:=(List.range (size*i)).map (outG w size)
theorem z4j {w:List UInt64} {size:Nat} (h:0<size) (i:Nat):zds w size (i+1)=zds w size i++(List.range size).map fun j=>(g64 w i>>>UInt64.ofNat (8*(size-1-j))).toUInt8:=by
  unfold zds
  rw [Nat.mul_succ,List.range_add,List.map_append,List.map_map]
  congr 1
  refine yi fun j hj=>?_
  show outG w size (size*i+j)=_
  unfold outG
  rw [Nat.mul_add_div h,Nat.div_eq_of_lt hj,Nat.mul_add_mod,Nat.mod_eq_of_lt hj,Nat.add_zero]
theorem zvn {w:List UInt64} {size k:Nat} (h:k≤8):(zgh w size).take (size*k)=zds w size k:=by
  unfold zgh zds
  rw [←List.map_take,List.take_range,Nat.min_eq_left (by rw [Nat.mul_comm 8];exact Nat.mul_le_mul_left _ h)]
theorem be4 (x:UInt32):((List.range 4).map fun j=>(x.toUInt64>>>UInt64.ofNat (8*(4-1-j))).toUInt8)=beB ((x.toNat:Nat):Int) 4:=by
  unfold beB
  have hx:=x.toNat_lt
  refine yi fun j hj=>?_
  rw [z48 (by omega) (by omega)]
  congr 3
  apply UInt64.toNat_inj.1
  rw [UInt32.toNat_toUInt64,UInt64.toNat_ofNat'];omega
theorem yh4 (x:UInt64):((List.range 8).map fun j=>(x>>>UInt64.ofNat (8*(8-1-j))).toUInt8)=beB (((x>>>32).toNat:Nat):Int) 4++beB (((x&&&4294967295).toNat:Nat):Int) 4:=by
  have hx:=x.toNat_lt
  have h1:(x>>>32).toNat=x.toNat/ 2^32:=zja _ (k:=32) (by decide)
  have h2:(x&&&4294967295).toNat=x.toNat%2^32:=by
    rw [UInt64.toNat_and];show x.toNat&&&(2^32-1)=_;rw [Nat.and_two_pow_sub_one_eq_mod]
  rw [h1,h2]
  have b: ∀k,k<64→(x>>>UInt64.ofNat k).toUInt8=UInt8.ofNat (x.toNat/ 2^k):=by
    intro k hk
    apply UInt8.toNat_inj.1
    rw [UInt64.toNat_toUInt8,UInt8.toNat_ofNat',zja _ hk]
  have hi: ∀k,UInt8.ofInt (((x.toNat/ 2^32:Nat):Int)/ 2^k)=UInt8.ofNat (x.toNat/ 2^(32+k)):=by
    intro k
    rw [zdp,Nat.div_div_eq_div_mul,←Nat.pow_add]
  have lo: ∀k,k<32→k%8=0→UInt8.ofInt (((x.toNat%2^32:Nat):Int)/ 2^k)=UInt8.ofNat (x.toNat/ 2^k):=by
    intro k hk h8
    rw [zdp]
    apply UInt8.toNat_inj.1
    rw [UInt8.toNat_ofNat',UInt8.toNat_ofNat']
    have:k=0∨k=8∨k=16∨k=24:=by omega
    rcases this with rfl|rfl|rfl|rfl<;>omega
  show [_,_,_,_,_,_,_,_]= [UInt8.ofInt (((x.toNat/ 2^32:Nat):Int)/ 2^24),UInt8.ofInt (((x.toNat/ 2^32:Nat):Int)/ 2^16),UInt8.ofInt (((x.toNat/ 2^32:Nat):Int)/ 2^8),UInt8.ofInt (((x.toNat/ 2^32:Nat):Int)/ 2^0),UInt8.ofInt (((x.toNat%2^32:Nat):Int)/ 2^24),UInt8.ofInt (((x.toNat%2^32:Nat):Int)/ 2^16),UInt8.ofInt (((x.toNat%2^32:Nat):Int)/ 2^8),UInt8.ofInt (((x.toNat%2^32:Nat):Int)/ 2^0)]
  rw [hi 24,hi 16,hi 8,hi 0,lo 24 (by decide) rfl,lo 16 (by decide) rfl,lo 8 (by decide) rfl,lo 0 (by decide) rfl]
  rw [←b 56 (by decide),←b 48 (by decide),←b 40 (by decide),←b 32 (by decide),←b 24 (by decide),←b 16 (by decide),←b 8 (by decide),←b 0 (by decide)]
def zjj (H:List UInt32) (T:List UInt8):Nat→List UInt32
  |0=>H
  |t+1=>b32 (zjj H T t) ((T.drop (64*t)).take 64)
theorem zut {H:List UInt32} (h:H.length=8) (T:List UInt8): ∀t,(zjj H T t).length=8
  |0=>h
  |_+1=>z8c _ _
theorem zzt {h:List UInt32} {H:List UInt64} (e:H=h.map UInt32.toUInt64) (hl:h.length=8) (T:List UInt8): ∀t,xb 256 KC H T t=(zjj h T t).map UInt32.toUInt64
  |0=>e
  |t+1=>by
   show zam 256 KC (xb 256 KC H T t) ((T.drop (64*t)).take 64)=_
   unfold zam
   rw [if_pos rfl,z33 (zzt e hl T t) (zut hl T t)]
   rfl
def H32:List UInt32:= [0x6a09e667,0xbb67ae85,0x3c6ef372,0xa54ff53a,0x510e527f,0x9b05688c,0x1f83d9ab,0x5be0cd19]
theorem ydg:HB 256=H32.map UInt32.toUInt64:=by decide+kernel
theorem zz4 {s:List UInt8} (h:s.length<2305843009213693952):x4 256 s=zds ((zjj H32 (zf9 256 s) ((zf9 256 s).length/ 64)).map UInt32.toUInt64) 4 8:=by
  rw [zvr,zyr h]
  unfold ycb
  rw [show bk 256=64 from rfl,zzt ydg rfl]
  exact zvn (size:=4) (k:=8) (Nat.le_refl _)
theorem z0i {s:List UInt8} (h:s.length<2305843009213693952):x4 384 s=zds (xb 384 KC (HB 384) (zf9 384 s) ((zf9 384 s).length/ 128)) 8 6:=by
  rw [zvr,zyr h]
  unfold ycb
  rw [show bk 384=128 from rfl]
  exact zvn (size:=8) (k:=6) (by decide)
end Go.Sym.Sha

namespace Go.Sym.Z
open Go Go.Proofs.Tryz Go.Sym.Lp Go.Sym.Cha Go.Sym.Sha Go.Sym.Hk Go.Sym.Gcm
set_option maxRecDepth 100000
def yd9:List (Nat×List PStep):= [(1,[⟨0,[]⟩,⟨1,[0]⟩,⟨2,[]⟩,⟨3,[0,1,2]⟩,⟨4,[0,1,2,3]⟩,⟨5,[0,1,2,3]⟩,⟨6,[0,1,2]⟩,⟨7,[]⟩,⟨8,[]⟩])]
def yem:List (Nat×List PStep):= [(1,[⟨0,[]⟩,⟨1,[0]⟩,⟨2,[]⟩,⟨3,[0,1,2]⟩,⟨4,[0,1,2,3]⟩,⟨5,[0,1,2,3]⟩,⟨6,[0,1,2]⟩,⟨7,[]⟩,⟨8,[]⟩])]
def yf3:List (Nat×List PStep):= [(6,[⟨0,[]⟩,⟨1,[0]⟩,⟨2,[0,1]⟩,⟨3,[0,1]⟩,⟨4,[0]⟩,⟨5,[0]⟩,⟨6,[0]⟩,⟨7,[0,1,2,3,4,5,6]⟩,⟨8,[0,1,2,3,4,5,6,7]⟩,⟨9,[0,1,2,3,4,5,6,7]⟩,⟨10,[0,1,2,3,4,5,6,7]⟩,⟨11,[0,1,2,3,4,5,6]⟩,⟨12,[0,1,2,3,4,5,6]⟩,⟨13,[0,1,2,3,4,5,6]⟩,⟨14,[0]⟩,⟨15,[0,1,2,3,4,5,6,7,8,9,10,11,12,13,14]⟩,⟨16,[0,1,2,3,4,5,6,7,8,9,10,11,12,13,14,15]⟩,⟨17,[0,1,2,3,4,5,6,7,8,9,10,11,12,13,14,15]⟩,⟨18,[0,1,2,3,4,5,6,7,8,9,10,11,12,13,14,15]⟩,⟨19,[0,1,2,3,4,5,6,7,8,9,10,11,12,13,14]⟩,⟨20,[0,1,2,3,4,5,6,7,8,9,10,11,12,13,14]⟩,⟨21,[0,1,2,3,4,5,6,7,8,9,10,11,12,13,14]⟩,⟨22,[0]⟩,⟨23,[0,1,2,3,4,5,6,7,8,9,10,11,12,13,14,15,16,17,18,19,20,21,22]⟩,⟨24,[0,1,2,3,4,5,6,7,8,9,10,11,12,13,14,15,16,17,18,19,20,21,22,23]⟩,⟨25,[0,1,2,3,4,5,6,7,8,9,10,11,12,13,14,15,16,17,18,19,20,21,22,23]⟩,⟨26,[0,1,2,3,4,5,6,7,8,9,10,11,12,13,14,15,16,17,18,19,20,21,22,23]⟩,⟨27,[0,1,2,3,4,5,6,7,8,9,10,11,12,13,14,15,16,17,18,19,20,21,22]⟩,⟨28,[0,1,2,3,4,5,6,7,8,9,10,11,12,13,14,15,16,17,18,19,20,21,22]⟩,⟨29,[0]⟩,⟨30,[]⟩,⟨31,[]⟩]),(10,[⟨0,[]⟩,⟨1,[]⟩,⟨2,[]⟩,⟨3,[]⟩,⟨5,[0,1,2,3]⟩,⟨6,[0,1,2,3]⟩,⟨7,[0,1,2,3]⟩,⟨8,[0,1,2,3]⟩,⟨11,[0,1,2,3,5,6,7,8]⟩,⟨12,[0,1,2,3,5,6,7,8]⟩,⟨13,[0,1,2,3,5,6,7,8]⟩,⟨14,[0,1,2,3,5,6,7,8]⟩,⟨15,[0,1,2,3,5,6,7,8]⟩,⟨4,[5,6,7,8,11,12,13,14,15]⟩,⟨9,[11,12,13,14,15]⟩,⟨10,[11,12,13,14,15]⟩,⟨16,[]⟩,⟨17,[]⟩]),(11,[⟨0,[]⟩,⟨1,[]⟩,⟨2,[]⟩,⟨3,[]⟩,⟨5,[0,1,2,3]⟩,⟨6,[0,1,2,3]⟩,⟨7,[0,1,2,3]⟩,⟨8,[0,1,2,3]⟩,⟨11,[0,1,2,3,5,6,7,8]⟩,⟨12,[0,1,2,3,5,6,7,8]⟩,⟨13,[0,1,2,3,5,6,7,8]⟩,⟨14,[0,1,2,3,5,6,7,8]⟩,⟨15,[0,1,2,3,5,6,7,8]⟩,⟨4,[5,6,7,8,11,12,13,14,15]⟩,⟨9,[11,12,13,14,15]⟩,⟨10,[11,12,13,14,15]⟩,⟨16,[]⟩,⟨17,[]⟩]),(12,[⟨0,[]⟩,⟨1,[0]⟩,⟨2,[0]⟩,⟨3,[0]⟩,⟨4,[0]⟩,⟨5,[0,1,2,3,4]⟩,⟨6,[0]⟩,⟨7,[0,1,2,3,4,5,6]⟩,⟨8,[0,1,2,3,4,5,6]⟩,⟨9,[0,1,2,3,4,5,6]⟩,⟨10,[0,1,2,3,4,5,6]⟩,⟨11,[0]⟩,⟨12,[0,1,2,3,4,5,6,7,8,9,10,11]⟩,⟨13,[0]⟩,⟨14,[]⟩,⟨15,[]⟩]),(17,[⟨0,[]⟩,⟨1,[]⟩,⟨3,[0,1]⟩,⟨4,[0,1]⟩,⟨7,[0,1,3,4]⟩,⟨8,[0,1,3,4]⟩,⟨2,[3,4,7,8]⟩,⟨5,[7,8]⟩,⟨6,[7,8]⟩,⟨9,[6]⟩,⟨10,[]⟩,⟨11,[]⟩]),(18,[⟨0,[]⟩,⟨1,[]⟩,⟨2,[0,1]⟩,⟨3,[]⟩,⟨4,[0,1,2,3]⟩,⟨5,[0,1,2,3]⟩,⟨6,[0,1,2,3,4,5]⟩,⟨7,[0,1,2,3,4,5]⟩,⟨8,[0,1,2,3]⟩,⟨9,[0,1,2,3,4,5,6,7,8]⟩,⟨10,[0,1,2,3,4,5,6,7,8]⟩,⟨11,[0,1,2,3,4,5,6,7,8]⟩,⟨12,[0,1,2,3,4,5,6,7,8,9,10,11]⟩,⟨13,[0,1,2,3,4,5,6,7,8,9,10,11]⟩,⟨14,[0,1,2,3,4,5,6,7,8]⟩,⟨15,[0,1,2,3]⟩,⟨16,[]⟩,⟨17,[0,1,2,3,4,5,6,7,8,9,10,11,12,13,14,15,16]⟩,⟨18,[0,1,2,3,4,5,6,7,8,9,10,11,12,13,14,15,16]⟩,⟨19,[0,1,2,3,4,5,6,7,8,9,10,11,12,13,14,15,16]⟩,⟨20,[]⟩,⟨21,[0,1,2,3,4,5,6,7,8,9,10,11,12,13,14,15,16,17,18,19,20]⟩,⟨22,[0,1,2,3,4,5,6,7,8,9,10,11,12,13,14,15,16,17,18,19,20]⟩,⟨23,[0,1,2,3,4,5,6,7,8,9,10,11,12,13,14,15,16,17,18,19,20]⟩,⟨24,[]⟩,⟨25,[]⟩]),(19,[⟨0,[]⟩,⟨1,[]⟩,⟨3,[0,1]⟩,⟨4,[0,1]⟩,⟨7,[0,1,3,4]⟩,⟨8,[0,1,3,4]⟩,⟨2,[3,4,7,8]⟩,⟨5,[7,8]⟩,⟨6,[7,8]⟩,⟨9,[6]⟩,⟨10,[]⟩,⟨11,[]⟩]),(25,[⟨0,[]⟩,⟨1,[0]⟩,⟨2,[0]⟩,⟨3,[0]⟩,⟨4,[0,1,2,3]⟩,⟨5,[0,1,2,3]⟩,⟨6,[0,1,2,3]⟩,⟨7,[0]⟩,⟨8,[]⟩,⟨9,[]⟩])]
def yd1:List (Nat×List PStep):= [(9,[⟨0,[]⟩,⟨1,[0]⟩,⟨2,[0]⟩,⟨3,[0]⟩,⟨4,[0]⟩,⟨5,[0,1,2,3,4]⟩,⟨6,[0,1,2,3,4,5]⟩,⟨7,[0,1,2,3,4,5]⟩,⟨8,[0,1,2,3,4,5,6,7]⟩,⟨9,[0,1,2,3,4,5]⟩,⟨10,[0,1,2,3,4]⟩,⟨11,[0,1,2,3,4]⟩,⟨12,[0]⟩,⟨13,[]⟩,⟨14,[]⟩]),(13,[⟨0,[]⟩,⟨1,[]⟩,⟨2,[]⟩,⟨3,[]⟩,⟨5,[0,1,2,3]⟩,⟨6,[0,1,2,3]⟩,⟨7,[0,1,2,3]⟩,⟨8,[0,1,2,3]⟩,⟨11,[0,1,2,3,5,6,7,8]⟩,⟨12,[0,1,2,3,5,6,7,8]⟩,⟨13,[0,1,2,3,5,6,7,8]⟩,⟨14,[0,1,2,3,5,6,7,8]⟩,⟨15,[0,1,2,3,5,6,7,8]⟩,⟨4,[5,6,7,8,11,12,13,14,15]⟩,⟨9,[11,12,13,14,15]⟩,⟨10,[11,12,13,14,15]⟩,⟨16,[]⟩,⟨17,[]⟩]),(14,[⟨0,[]⟩,⟨1,[]⟩,⟨2,[]⟩,⟨3,[]⟩,⟨5,[0,1,2,3]⟩,⟨6,[0,1,2,3]⟩,⟨7,[0,1,2,3]⟩,⟨8,[0,1,2,3]⟩,⟨11,[0,1,2,3,5,6,7,8]⟩,⟨12,[0,1,2,3,5,6,7,8]⟩,⟨13,[0,1,2,3,5,6,7,8]⟩,⟨14,[0,1,2,3,5,6,7,8]⟩,⟨15,[0,1,2,3,5,6,7,8]⟩,⟨4,[5,6,7,8,11,12,13,14,15]⟩,⟨9,[11,12,13,14,15]⟩,⟨10,[11,12,13,14,15]⟩,⟨16,[]⟩,⟨17,[]⟩]),(15,[⟨0,[]⟩,⟨1,[0]⟩,⟨2,[0]⟩,⟨3,[0]⟩,⟨4,[0]⟩,⟨5,[0,1,2,3,4]⟩,⟨6,[0]⟩,⟨7,[0,1,2,3,4,5,6]⟩,⟨8,[0,1,2,3,4,5,6]⟩,⟨9,[0,1,2,3,4,5,6]⟩,⟨10,[0,1,2,3,4,5,6]⟩,⟨11,[0]⟩,⟨12,[0,1,2,3,4,5,6,7,8,9,10,11]⟩,⟨13,[0]⟩,⟨14,[]⟩,⟨15,[]⟩]),(20,[⟨0,[]⟩,⟨1,[]⟩,⟨3,[0,1]⟩,⟨4,[0,1]⟩,⟨7,[0,1,3,4]⟩,⟨8,[0,1,3,4]⟩,⟨2,[3,4,7,8]⟩,⟨5,[7,8]⟩,⟨6,[7,8]⟩,⟨9,[6]⟩,⟨10,[]⟩,⟨11,[]⟩]),(21,[⟨0,[]⟩,⟨1,[]⟩,⟨2,[0,1]⟩,⟨3,[]⟩,⟨4,[0,1,2,3]⟩,⟨5,[0,1,2,3]⟩,⟨6,[0,1,2,3,4,5]⟩,⟨7,[0,1,2,3,4,5]⟩,⟨8,[0,1,2,3]⟩,⟨9,[0,1,2,3,4,5,6,7,8]⟩,⟨10,[0,1,2,3,4,5,6,7,8]⟩,⟨11,[0,1,2,3,4,5,6,7,8]⟩,⟨12,[0,1,2,3,4,5,6,7,8,9,10,11]⟩,⟨13,[0,1,2,3,4,5,6,7,8,9,10,11]⟩,⟨14,[0,1,2,3,4,5,6,7,8]⟩,⟨15,[0,1,2,3]⟩,⟨16,[]⟩,⟨17,[0,1,2,3,4,5,6,7,8,9,10,11,12,13,14,15,16]⟩,⟨18,[0,1,2,3,4,5,6,7,8,9,10,11,12,13,14,15,16]⟩,⟨19,[0,1,2,3,4,5,6,7,8,9,10,11,12,13,14,15,16]⟩,⟨20,[]⟩,⟨21,[0,1,2,3,4,5,6,7,8,9,10,11,12,13,14,15,16,17,18,19,20]⟩,⟨22,[0,1,2,3,4,5,6,7,8,9,10,11,12,13,14,15,16,17,18,19,20]⟩,⟨23,[0,1,2,3,4,5,6,7,8,9,10,11,12,13,14,15,16,17,18,19,20]⟩,⟨24,[]⟩,⟨25,[]⟩]),(22,[⟨0,[]⟩,⟨1,[]⟩,⟨3,[0,1]⟩,⟨4,[0,1]⟩,⟨7,[0,1,3,4]⟩,⟨8,[0,1,3,4]⟩,⟨2,[3,4,7,8]⟩,⟨5,[7,8]⟩,⟨6,[7,8]⟩,⟨9,[6]⟩,⟨10,[]⟩,⟨11,[]⟩]),(28,[⟨0,[]⟩,⟨1,[0]⟩,⟨2,[0]⟩,⟨3,[0]⟩,⟨4,[0,1,2,3]⟩,⟨5,[0,1,2,3]⟩,⟨6,[0,1,2,3]⟩,⟨7,[0]⟩,⟨8,[]⟩,⟨9,[]⟩])]
def yif:List (Nat×TyI):= [(3,ty3),(4,ty4),(5,ty5),(9,ty9),(48,zd3),(51,zd6),(113,xu),(99,xm),(242,zf7),(245,zf1),(249,zf0),(239,zfy)]
theorem zcu: ∀t i,y9 yif t=some i→yx prog t i:=(zd zda (zd zc8 (zd zc9 (zd zdf (zd zbq (zd zbr (zd zbh (zd zcx (zd zvq (zd zub (zd zuo (zd zt4 zau))))))))))))
def z2s:Spec:=fun args hp K=>match args,hp with
  | [.u32 x,.int k],[]=>Pre (0<k∧k<32) (K (.u32 (zie x k.toNat)) [])
  |_,_=>False
theorem ycv:zm prog 187 z2s:=by
  refine zk zcu zg rfl func187 rfl call187 (D:=yd9) ?_ ?_
  ·intro args hp K h
   unfold z2s at h
   split at h
   ·exact Nat.le_of_ble_eq_true rfl
   ·exact h.elim
  ·intro args hp K h
   unfold z2s at h
   split at h
   ·rename_i x k
    obtain ⟨⟨h0,h1⟩,h⟩:=zl h
    have e:(32-k).toNat=32-k.toNat:=by omega
    refine za ?_
    rw [e]
    conv=>whnf
    exact ze [] h
   ·exact h.elim
def zwy:Spec:=fun args hp K=>match args,hp with
  | [.u64 x,.int k],[]=>Pre (0<k∧k<64) (K (.u64 (zih x k.toNat)) [])
  |_,_=>False
theorem z78:zm prog 188 zwy:=by
  refine zk zcu zg rfl func188 rfl call188 (D:=yem) ?_ ?_
  ·intro args hp K h
   unfold zwy at h
   split at h
   ·exact Nat.le_of_ble_eq_true rfl
   ·exact h.elim
  ·intro args hp K h
   unfold zwy at h
   split at h
   ·rename_i x k
    obtain ⟨⟨h0,h1⟩,h⟩:=zl h
    have e:(64-k).toNat=64-k.toNat:=by omega
    refine za ?_
    rw [e]
    conv=>whnf
    exact ze [] h
   ·exact h.elim
theorem w4 {s:List UInt8} {i:Nat} (h:4*i+4≤s.length):(s.getD (4*i) 0).toUInt32<<<24|||(s.getD (4*i+1) 0).toUInt32<<<16|||(s.getD (4*i+2) 0).toUInt32<<<8|||(s.getD (4*i+3) 0).toUInt32=(num ((s.drop (4*i)).take 4)).toUInt32:=by
  rw [Go.Sym.Aes.take4 h];exact ybj _ _ _ _
theorem ydd {b:List UInt8} {i:Nat} (h:16≤i):y8 b (i+1)=(y8 b i).set i (g32 (y8 b i) (i-16)+(zie (g32 (y8 b i) (i-15)) 7^^^zie (g32 (y8 b i) (i-15)) 18^^^g32 (y8 b i) (i-15)>>>3)+g32 (y8 b i) (i-7)+(zie (g32 (y8 b i) (i-2)) 17^^^zie (g32 (y8 b i) (i-2)) 19^^^g32 (y8 b i) (i-2)>>>10)):=by
  rw [z6z (by omega),zcp (by decide),zcp (by decide),zcp (by decide),zcp (by decide)]
  have c: ∀a b c:UInt32,a+b+c=a+c+b:=fun a b c=>by rw [UInt32.add_assoc,UInt32.add_comm b,←UInt32.add_assoc]
  rw [c _ (g32 (y8 b i) (i-7))]
  rfl
theorem ybd {b:List UInt8} {i:Nat} (h:16≤i):y7 b (i+1)=(y7 b i).set i (g64 (y7 b i) (i-16)+(zih (g64 (y7 b i) (i-15)) 1^^^zih (g64 (y7 b i) (i-15)) 8^^^g64 (y7 b i) (i-15)>>>7)+g64 (y7 b i) (i-7)+(zih (g64 (y7 b i) (i-2)) 19^^^zih (g64 (y7 b i) (i-2)) 61^^^g64 (y7 b i) (i-2)>>>6)):=by
  rw [zw9 (by omega),zct (by decide),zct (by decide),zct (by decide),zct (by decide)]
  have c: ∀a b c:UInt64,a+b+c=a+c+b:=fun a b c=>by rw [UInt64.add_assoc,UInt64.add_comm b,←UInt64.add_assoc]
  rw [c _ (g64 (y7 b i) (i-7))]
  rfl
theorem ygc (k:List UInt64) (w s:List UInt32) (i:Nat):zby k w s (i+1)=z4d (zby k w s i) (g64 k i>>>32).toUInt32 (g32 w i):=rfl
theorem ygz (k w s:List UInt64) (i:Nat):zce k w s (i+1)=z64 (zce k w s i) (g64 k i) (g64 w i):=rfl
theorem z9p (s:List UInt32) (k w:UInt32):z4d s k w=
    [g32 s 7+(zie (g32 s 4) 6^^^zie (g32 s 4) 11^^^zie (g32 s 4) 25)+(g32 s 4&&&g32 s 5^^^ ~~~g32 s 4&&&g32 s 6)+k+w+((zie (g32 s 0) 2^^^zie (g32 s 0) 13^^^zie (g32 s 0) 22)+(g32 s 0&&&g32 s 1^^^g32 s 0&&&g32 s 2^^^g32 s 1&&&g32 s 2)),g32 s 0,g32 s 1,g32 s 2,g32 s 3+(g32 s 7+(zie (g32 s 4) 6^^^zie (g32 s 4) 11^^^zie (g32 s 4) 25)+(g32 s 4&&&g32 s 5^^^ ~~~g32 s 4&&&g32 s 6)+k+w),g32 s 4,g32 s 5,g32 s 6]:=by
  rw [zcp (by decide),zcp (by decide),zcp (by decide),zcp (by decide),zcp (by decide),zcp (by decide)];rfl
theorem z9g (s:List UInt64) (k w:UInt64):z64 s k w=
    [g64 s 7+(zih (g64 s 4) 14^^^zih (g64 s 4) 18^^^zih (g64 s 4) 41)+(g64 s 4&&&g64 s 5^^^ ~~~g64 s 4&&&g64 s 6)+k+w+((zih (g64 s 0) 28^^^zih (g64 s 0) 34^^^zih (g64 s 0) 39)+(g64 s 0&&&g64 s 1^^^g64 s 0&&&g64 s 2^^^g64 s 1&&&g64 s 2)),g64 s 0,g64 s 1,g64 s 2,g64 s 3+(g64 s 7+(zih (g64 s 4) 14^^^zih (g64 s 4) 18^^^zih (g64 s 4) 41)+(g64 s 4&&&g64 s 5^^^ ~~~g64 s 4&&&g64 s 6)+k+w),g64 s 4,g64 s 5,g64 s 6]:=by
  rw [zct (by decide),zct (by decide),zct (by decide),zct (by decide),zct (by decide),zct (by decide)];rfl
theorem yej (b:List UInt8) (i:Nat):zb5 b (i+1)=zb5 b i<<<8|||(b.getD i 0).toUInt64:=rfl
theorem z93:K32.length=64:=rfl
attribute [local irreducible] zb5 y8 y7 zby zce KC K32
def zlh:Spec:=fun args hp K=>match args,hp with
  | [.arr32 8 H,.str s],[]=>Pre (H.length=8∧s.length=64) (K (.arr32 8 (b32 H s)) [])
  |_,_=>False
set_option maxHeartbeats 8000000 in
theorem zxj:zm prog 180 zlh:=by
  refine zk zcu (zc ycv zg) rfl func180 rfl call180 (D:=yf3) ?_ ?_
  ·intro args hp K h
   unfold zlh at h
   split at h
   ·exact Nat.le_of_ble_eq_true rfl
   ·exact h.elim
  ·intro args hp K h
   unfold zlh at h
   split at h
   ·rename_i H s
    obtain ⟨⟨hH,hs⟩,h⟩:=zl h
    have hKl:K32.length=64:=z93
    refine za ?_
    refine zp (Ix (16)) (fun q=>⟨[(1,.str s),(2,.ptr 0 0 0 []),(4,.ptr 1 0 0 []),(5,.ptr 2 0 0 []),(6,.ptr 3 0 0 []),(7,.int q.i)],[.mk 239 [.arr32 8 H],.mk 239 [.arr32 8 [0,0,0,0,0,0,0,0]],.mk 249 [.arr32 64 K32],.mk 249 [.arr32 64 (y8 s q.i)]]⟩) (fun q=>(16)-q.i) ⟨0,Nat.zero_le _⟩ [0,1,2,3] ?_ ?_
    ·repeat ((conv=>whnf);refine zb ?_)
     conv=>whnf
     refine zq (congrArg (fun x=>SV.agg [SV.arr32 64 x]) (show _=K32 by unfold K32;decide+kernel)) ?_
     repeat ((conv=>whnf);refine zb ?_)
     conv=>whnf
     exact zh (congrArg (fun x=>SV.agg [SV.arr32 64 x]) (show _=y8 s 0 by unfold y8;rfl))
    ·intro q
     have hi:=q.hi
     have hwl:=zic s q.i
     have hI:((q.i:Nat):Int).toNat=q.i:=Int.toNat_natCast _
     have hx0:off (ye [] ((q.i:Int)).toNat xu.sz)=q.i:=by rw [zv];show 0+((q.i:Int)).toNat*1=_;omega
     by_cases h4:q.i<16
     ·have i0:(4*(q.i:Int)).toNat=4*q.i:=by omega
      have i1:(4*(q.i:Int)+1).toNat=4*q.i+1:=by omega
      have i2:(4*(q.i:Int)+2).toNat=4*q.i+2:=by omega
      have i3:(4*(q.i:Int)+3).toNat=4*q.i+3:=by omega
      refine za ?_
      refine ⟨⟨q.i+1,h4⟩,[0,1,2,3],by show (16)-(q.i+1)<(16)-q.i;omega,?_⟩
      repeat ((conv=>whnf);refine zb ?_)
      conv=>whnf
      exact zh (congrArg (fun x=>SV.agg [SV.arr32 64 x]) (show _=y8 s (q.i+1) by rw [z4k h4,←w4 (by omega),hx0,i0,i1,i2,i3];rfl))
     ·have e4:q.i=16:=by omega
      rw [e4]
      clear hwl hx0 hI h4 hi e4 q
      refine za ?_
      refine zp (Ix (48)) (fun q=>⟨[(1,.str s),(2,.ptr 0 0 0 []),(4,.ptr 1 0 0 []),(5,.ptr 2 0 0 []),(6,.ptr 3 0 0 []),(8,.int (16+(q.i:Int)))],[.mk 239 [.arr32 8 H],.mk 239 [.arr32 8 [0,0,0,0,0,0,0,0]],.mk 249 [.arr32 64 K32],.mk 249 [.arr32 64 (y8 s (16+q.i))]]⟩) (fun q=>(48)-q.i) ⟨0,Nat.zero_le _⟩ [0,1,2,3] ?_ ?_
      ·exact zt
      ·intro q
       have hi:=q.hi
       have hwl:=zic s (16+q.i)
       have hx0:off (ye [] (16+(q.i:Int)).toNat xu.sz)=16+q.i:=by rw [zv];show 0+(16+(q.i:Int)).toNat*1=_;omega
       have hx15:off (ye [] (16+(q.i:Int)-15).toNat xu.sz)=16+q.i-15:=by rw [zv];show 0+(16+(q.i:Int)-15).toNat*1=_;omega
       have hx2:off (ye [] (16+(q.i:Int)-2).toNat xu.sz)=16+q.i-2:=by rw [zv];show 0+(16+(q.i:Int)-2).toNat*1=_;omega
       have hx16:off (ye [] (16+(q.i:Int)-16).toNat xu.sz)=16+q.i-16:=by rw [zv];show 0+(16+(q.i:Int)-16).toNat*1=_;omega
       have hx7:off (ye [] (16+(q.i:Int)-7).toNat xu.sz)=16+q.i-7:=by rw [zv];show 0+(16+(q.i:Int)-7).toNat*1=_;omega
       by_cases h4:q.i<48
       ·refine za ?_
        refine ⟨⟨q.i+1,h4⟩,[0,1,2,3],by show (48)-(q.i+1)<(48)-q.i;omega,?_⟩
        repeat ((conv=>whnf);refine zb ?_)
        conv=>whnf
        exact zh (congrArg (fun x=>SV.agg [SV.arr32 64 x]) (show _=y8 s (16+(q.i+1)) by rw [hx0,hx15,hx2,hx16,hx7,show 16+(q.i+1)=16+q.i+1 from rfl,ydd (by omega)];rfl))
       ·have e4:q.i=48:=by omega
        rw [e4] at hwl
        rw [e4]
        obtain ⟨V,hV⟩: ∃V,V=y8 s 64:=⟨_,rfl⟩
        rw [show 16+48=64 from rfl,←hV] at hwl
        rw [show 16+48=64 from rfl,←hV]
        clear hx0 hx15 hx2 hx16 hx7 h4 hi e4 q
        refine za ?_
        refine zp (Ix (64)) (fun q=>⟨[(1,.str s),(2,.ptr 0 0 0 []),(4,.ptr 1 0 0 []),(5,.ptr 2 0 0 []),(6,.ptr 3 0 0 []),(11,.ptr 4 0 0 []),(12,.int q.i)],[.mk 239 [.arr32 8 H],.mk 239 [.arr32 8 [0,0,0,0,0,0,0,0]],.mk 249 [.arr32 64 K32],.mk 249 [.arr32 64 V],.mk 239 [.arr32 8 (zby KC V H q.i)]]⟩) (fun q=>(64)-q.i) ⟨0,Nat.zero_le _⟩ [0,1,2,3,4] ?_ ?_
        ·repeat ((conv=>whnf);refine zb ?_)
         conv=>whnf
         exact zh (congrArg (fun x=>SV.agg [SV.arr32 8 x]) (show H=zby KC V H 0 by unfold zby;rfl))
        ·intro q
         have hi:=q.hi
         have hrl:=zq0 (k:=KC) (w:=V) hH q.i
         have hx0:off (ye [] ((q.i:Int)).toNat xu.sz)=q.i:=by rw [zv];show 0+((q.i:Int)).toNat*1=_;omega
         by_cases h4:q.i<64
         ·have hk:=ycl q.i h4
          refine za ?_
          conv=>whnf
          refine ⟨⟨q.i+1,h4⟩,[0,1,2,3,4],by show (64)-(q.i+1)<(64)-q.i;omega,?_⟩
          repeat ((conv=>whnf);refine zb ?_)
          conv=>whnf
          exact zh (congrArg (fun x=>SV.agg [SV.arr32 8 x]) (show _=zby KC V H (q.i+1) by rw [ygc,←hk,z9p,hx0];rfl))
         ·have e4:q.i=64:=by omega
          rw [e4] at hrl
          rw [e4]
          obtain ⟨R,hR⟩: ∃R,R=zby KC V H 64:=⟨_,rfl⟩
          rw [←hR] at hrl
          rw [←hR]
          clear hx0 h4 hi e4 q
          refine za ?_
          refine zp (Ix (8)) (fun q=>⟨[(1,.str s),(2,.ptr 0 0 0 []),(4,.ptr 1 0 0 []),(5,.ptr 2 0 0 []),(6,.ptr 3 0 0 []),(11,.ptr 4 0 0 []),(17,.int q.i)],[.mk 239 [.arr32 8 (ovr H 0 (fun i=>g32 H i+g32 R i) q.i)],.mk 239 [.arr32 8 [0,0,0,0,0,0,0,0]],.mk 249 [.arr32 64 K32],.mk 249 [.arr32 64 V],.mk 239 [.arr32 8 R]]⟩) (fun q=>(8)-q.i) ⟨0,Nat.zero_le _⟩ [0,1,2,3,4] ?_ ?_
          ·exact zt
          ·intro q
           have hi:=q.hi
           have hlo:=yc (l:=H) (a:=0) (i:=q.i) (by omega) (fun i=>g32 H i+g32 R i)
           have hI:((q.i:Int)).toNat=q.i:=Int.toNat_natCast _
           by_cases h4:q.i<8
           ·refine za ?_
            refine ⟨⟨q.i+1,h4⟩,[0,1,2,3,4],by show (8)-(q.i+1)<(8)-q.i;omega,?_⟩
            repeat ((conv=>whnf);refine zb ?_)
            conv=>whnf
            refine zq (congrArg (fun x=>SV.agg [SV.arr32 8 x]) (z8 (by omega) ?hv ?hkk)) ?_
            case hkk=>show ((q.i:Int)).toNat=0+q.i;omega
            case hv=>
              show List.getD (ovr H 0 (fun i=>g32 H i+g32 R i) q.i) ((q.i:Int)).toNat 0+List.getD R ((q.i:Int)).toNat 0=_
              rw [yp (by omega) _ (by omega),hI];rfl
            exact zt
           ·have e4:q.i=8:=by omega
            have hfin:ovr H 0 (fun i=>g32 H i+g32 R i) 8=b32 H s:=by
              rw [yy hH];unfold b32;rw [←hV,←hR]
            rw [e4,hfin]
            refine za ?_
            exact ze [] h
   ·exact h.elim
theorem zus (b:List UInt8): ∀i j,i≤j→j<80→(y7 b i).getD j 0=0
  |0,j,_,h=>by unfold y7;rw [List.getD_eq_getElem?_getD,List.getElem?_replicate,if_pos h];rfl
  |i+1,j,h,h2=>by
   have ih:=zus b i j (by omega) h2
   by_cases h16:i<16
   ·rw [zw0 h16,List.getD_eq_getElem?_getD,List.getElem?_set_ne (by omega),←List.getD_eq_getElem?_getD];exact ih
   ·rw [zw9 h16,List.getD_eq_getElem?_getD,List.getElem?_set_ne (by omega),←List.getD_eq_getElem?_getD];exact ih
def zkr:Spec:=fun args hp K=>match args,hp with
  | [.arr64 8 H,.str s],[]=>Pre (H.length=8∧s.length=128) (K (.arr64 8 (zfq KC H s)) [])
  |_,_=>False
set_option maxHeartbeats 8000000 in
theorem zv6:zm prog 181 zkr:=by
  refine zk zcu (zc z78 zg) rfl func181 rfl call181 (D:=yd1) ?_ ?_
  ·intro args hp K h
   unfold zkr at h
   split at h
   ·exact Nat.le_of_ble_eq_true rfl
   ·exact h.elim
  ·intro args hp K h
   unfold zkr at h
   split at h
   ·rename_i H s
    obtain ⟨⟨hH,hs⟩,h⟩:=zl h
    have hKl:KC.length=80:=zm0
    refine za ?_
    refine zp (Ix (16)) (fun q=>⟨[(1,.str s),(2,.ptr 0 0 0 []),(4,.ptr 1 0 0 []),(5,.ptr 2 0 0 []),(6,.ptr 3 0 0 []),(7,.int q.i)],[.mk 242 [.arr64 8 H],.mk 242 [.arr64 8 [0,0,0,0,0,0,0,0]],.mk 245 [.arr64 80 KC],.mk 245 [.arr64 80 (y7 s q.i)]]⟩) (fun q=>(16)-q.i) ⟨0,Nat.zero_le _⟩ [0,1,2,3] ?_ ?_
    ·repeat ((conv=>whnf);refine zb ?_)
     conv=>whnf
     refine zq (congrArg (fun x=>SV.agg [SV.arr64 80 x]) (show _=KC by unfold KC;decide+kernel)) ?_
     repeat ((conv=>whnf);refine zb ?_)
     conv=>whnf
     exact zh (congrArg (fun x=>SV.agg [SV.arr64 80 x]) (show _=y7 s 0 by unfold y7;rfl))
    ·intro q
     have hi:=q.hi
     have hwl:=zhw s q.i
     have hI:((q.i:Nat):Int).toNat=q.i:=Int.toNat_natCast _
     have hx0:off (ye [] ((q.i:Int)).toNat xm.sz)=q.i:=by rw [zv];show 0+((q.i:Int)).toNat*1=_;omega
     by_cases h4:q.i<16
     ·have hB:((s.drop (8*q.i)).take 8).length=8:=by rw [List.length_take,List.length_drop];omega
      obtain ⟨P,hP⟩: ∃P,P=y7 s q.i:=⟨_,rfl⟩
      have hP0:P.getD q.i 0=0:=by
        rw [hP];exact zus s q.i q.i (Nat.le_refl _) (by omega)
      rw [←hP] at hwl
      rw [←hP]
      refine za ?_
      refine zp (Ix (8)) (fun r=>⟨[(1,.str s),(2,.ptr 0 0 0 []),(4,.ptr 1 0 0 []),(5,.ptr 2 0 0 []),(6,.ptr 3 0 0 []),(7,.int q.i),(8,.int r.i)],[.mk 242 [.arr64 8 H],.mk 242 [.arr64 8 [0,0,0,0,0,0,0,0]],.mk 245 [.arr64 80 KC],.mk 245 [.arr64 80 (P.set q.i (zb5 ((s.drop (8*q.i)).take 8) r.i))]]⟩) (fun r=>(8)-r.i) ⟨0,Nat.zero_le _⟩ [0,1,2,3] ?_ ?_
      ·repeat ((conv=>whnf);refine zb ?_)
       conv=>whnf
       exact zh (congrArg (fun x=>SV.agg [SV.arr64 80 x]) (show P=P.set q.i (zb5 ((s.drop (8*q.i)).take 8) 0) from (by rw [show zb5 ((s.drop (8*q.i)).take 8) 0=P.getD q.i 0 by rw [hP0];unfold zb5;rfl,List.getD_eq_getElem?_getD,List.getElem?_eq_getElem (by omega)];exact (List.set_getElem_self _).symm)))
      ·intro r
       have hri:=r.hi
       have hsl:(P.set q.i (zb5 ((s.drop (8*q.i)).take 8) r.i)).length=80:=by rw [List.length_set,hwl]
       by_cases h5:r.i<8
       ·have j0:(8*(q.i:Int)+(r.i:Int)).toNat=8*q.i+r.i:=by omega
        refine za ?_
        refine ⟨⟨r.i+1,h5⟩,[0,1,2,3],by show (8)-(r.i+1)<(8)-r.i;omega,?_⟩
        repeat ((conv=>whnf);refine zb ?_)
        conv=>whnf
        exact zh (congrArg (fun x=>SV.agg [SV.arr64 80 x]) (show _=P.set q.i (zb5 ((s.drop (8*q.i)).take 8) (r.i+1)) by rw [hx0,List.set_set,List.getD_eq_getElem?_getD,List.getElem?_set_self (by omega),yej,zgn h5,j0];rfl))
       ·have e5:r.i=8:=by omega
        rw [e5]
        refine za ?_
        refine ⟨⟨q.i+1,h4⟩,[0,1,2,3],by show 16-(q.i+1)<16-q.i;omega,?_⟩
        repeat ((conv=>whnf);refine zb ?_)
        conv=>whnf
        exact zh (congrArg (fun x=>SV.agg [SV.arr64 80 x]) (show P.set q.i (zb5 ((s.drop (8*q.i)).take 8) 8)=y7 s (q.i+1) by rw [zw0 h4,hP];unfold num;rw [hB]))
     ·have e4:q.i=16:=by omega
      rw [e4]
      clear hwl hx0 hI h4 hi e4 q
      refine za ?_
      refine zp (Ix (64)) (fun q=>⟨[(1,.str s),(2,.ptr 0 0 0 []),(4,.ptr 1 0 0 []),(5,.ptr 2 0 0 []),(6,.ptr 3 0 0 []),(9,.int (16+(q.i:Int)))],[.mk 242 [.arr64 8 H],.mk 242 [.arr64 8 [0,0,0,0,0,0,0,0]],.mk 245 [.arr64 80 KC],.mk 245 [.arr64 80 (y7 s (16+q.i))]]⟩) (fun q=>(64)-q.i) ⟨0,Nat.zero_le _⟩ [0,1,2,3] ?_ ?_
      ·exact zt
      ·intro q
       have hi:=q.hi
       have hwl:=zhw s (16+q.i)
       have hx0:off (ye [] (16+(q.i:Int)).toNat xm.sz)=16+q.i:=by rw [zv];show 0+(16+(q.i:Int)).toNat*1=_;omega
       have hx15:off (ye [] (16+(q.i:Int)-15).toNat xm.sz)=16+q.i-15:=by rw [zv];show 0+(16+(q.i:Int)-15).toNat*1=_;omega
       have hx2:off (ye [] (16+(q.i:Int)-2).toNat xm.sz)=16+q.i-2:=by rw [zv];show 0+(16+(q.i:Int)-2).toNat*1=_;omega
       have hx16:off (ye [] (16+(q.i:Int)-16).toNat xm.sz)=16+q.i-16:=by rw [zv];show 0+(16+(q.i:Int)-16).toNat*1=_;omega
       have hx7:off (ye [] (16+(q.i:Int)-7).toNat xm.sz)=16+q.i-7:=by rw [zv];show 0+(16+(q.i:Int)-7).toNat*1=_;omega
       by_cases h4:q.i<64
       ·refine za ?_
        refine ⟨⟨q.i+1,h4⟩,[0,1,2,3],by show (64)-(q.i+1)<(64)-q.i;omega,?_⟩
        repeat ((conv=>whnf);refine zb ?_)
        conv=>whnf
        exact zh (congrArg (fun x=>SV.agg [SV.arr64 80 x]) (show _=y7 s (16+(q.i+1)) by rw [hx0,hx15,hx2,hx16,hx7,show 16+(q.i+1)=16+q.i+1 from rfl,ybd (by omega)];rfl))
       ·have e4:q.i=64:=by omega
        rw [e4] at hwl
        rw [e4]
        obtain ⟨V,hV⟩: ∃V,V=y7 s 80:=⟨_,rfl⟩
        rw [show 16+64=80 from rfl,←hV] at hwl
        rw [show 16+64=80 from rfl,←hV]
        clear hx0 hx15 hx2 hx16 hx7 h4 hi e4 q
        refine za ?_
        refine zp (Ix (80)) (fun q=>⟨[(1,.str s),(2,.ptr 0 0 0 []),(4,.ptr 1 0 0 []),(5,.ptr 2 0 0 []),(6,.ptr 3 0 0 []),(12,.ptr 4 0 0 []),(13,.int q.i)],[.mk 242 [.arr64 8 H],.mk 242 [.arr64 8 [0,0,0,0,0,0,0,0]],.mk 245 [.arr64 80 KC],.mk 245 [.arr64 80 V],.mk 242 [.arr64 8 (zce KC V H q.i)]]⟩) (fun q=>(80)-q.i) ⟨0,Nat.zero_le _⟩ [0,1,2,3,4] ?_ ?_
        ·repeat ((conv=>whnf);refine zb ?_)
         conv=>whnf
         exact zh (congrArg (fun x=>SV.agg [SV.arr64 8 x]) (show H=zce KC V H 0 by unfold zce;rfl))
        ·intro q
         have hi:=q.hi
         have hrl:=zqo (k:=KC) (w:=V) hH q.i
         have hx0:off (ye [] ((q.i:Int)).toNat xm.sz)=q.i:=by rw [zv];show 0+((q.i:Int)).toNat*1=_;omega
         by_cases h4:q.i<80
         ·skip
          refine za ?_
          conv=>whnf
          refine ⟨⟨q.i+1,h4⟩,[0,1,2,3,4],by show (80)-(q.i+1)<(80)-q.i;omega,?_⟩
          repeat ((conv=>whnf);refine zb ?_)
          conv=>whnf
          exact zh (congrArg (fun x=>SV.agg [SV.arr64 8 x]) (show _=zce KC V H (q.i+1) by rw [ygz,z9g,hx0];rfl))
         ·have e4:q.i=80:=by omega
          rw [e4] at hrl
          rw [e4]
          obtain ⟨R,hR⟩: ∃R,R=zce KC V H 80:=⟨_,rfl⟩
          rw [←hR] at hrl
          rw [←hR]
          clear hx0 h4 hi e4 q
          refine za ?_
          refine zp (Ix (8)) (fun q=>⟨[(1,.str s),(2,.ptr 0 0 0 []),(4,.ptr 1 0 0 []),(5,.ptr 2 0 0 []),(6,.ptr 3 0 0 []),(12,.ptr 4 0 0 []),(18,.int q.i)],[.mk 242 [.arr64 8 (ovr H 0 (fun i=>g64 H i+g64 R i) q.i)],.mk 242 [.arr64 8 [0,0,0,0,0,0,0,0]],.mk 245 [.arr64 80 KC],.mk 245 [.arr64 80 V],.mk 242 [.arr64 8 R]]⟩) (fun q=>(8)-q.i) ⟨0,Nat.zero_le _⟩ [0,1,2,3,4] ?_ ?_
          ·exact zt
          ·intro q
           have hi:=q.hi
           have hlo:=yc (l:=H) (a:=0) (i:=q.i) (by omega) (fun i=>g64 H i+g64 R i)
           have hI:((q.i:Int)).toNat=q.i:=Int.toNat_natCast _
           by_cases h4:q.i<8
           ·refine za ?_
            refine ⟨⟨q.i+1,h4⟩,[0,1,2,3,4],by show (8)-(q.i+1)<(8)-q.i;omega,?_⟩
            repeat ((conv=>whnf);refine zb ?_)
            conv=>whnf
            refine zq (congrArg (fun x=>SV.agg [SV.arr64 8 x]) (z8 (by omega) ?hv ?hkk)) ?_
            case hkk=>show ((q.i:Int)).toNat=0+q.i;omega
            case hv=>
              show List.getD (ovr H 0 (fun i=>g64 H i+g64 R i) q.i) ((q.i:Int)).toNat 0+List.getD R ((q.i:Int)).toNat 0=_
              rw [yp (by omega) _ (by omega),hI];rfl
            exact zt
           ·have e4:q.i=8:=by omega
            have hfin:ovr H 0 (fun i=>g64 H i+g64 R i) 8=zfq KC H s:=by
              rw [yy hH];unfold zfq;rw [←hV,←hR]
            rw [e4,hfin]
            refine za ?_
            exact ze [] h
   ·exact h.elim
end Go.Sym.Z
