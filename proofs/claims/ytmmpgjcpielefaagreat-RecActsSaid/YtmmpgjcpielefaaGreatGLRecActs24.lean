/-
  Contracts of functions of the program, each said of symbolic values, and plain laws; no condition beyond each statement's own.
-/
import Derived.Test.YtmmpgjcpielefaaGreatGLRecActs23
import Derived.Test.YtmmpgjcpielefaaGreatGLRecActs19
set_option linter.unusedSimpArgs false
set_option linter.unusedVariables false
namespace Go.Sym.Sha
open Go.Sym.Lp Go.Sym.Cha Go.Sym.Gcm Go.Sym.Hk
def zix (x:UInt32) (k:Nat):UInt32:=x>>>UInt32.ofNat k|||x<<<UInt32.ofNat (32-k)
theorem zc8 {x:UInt32} {k:Nat} (h:k≤32):zix x k=zhf x (32-k):=by
  unfold zix zhf;rw [UInt32.or_comm,show 32-(32-k)=k by omega]
def ziz (x:UInt64) (k:Nat):UInt64:=x>>>UInt64.ofNat k|||x<<<UInt64.ofNat (64-k)
theorem zc6 {x:UInt64} {k:Nat} (h:k≤64):ziz x k=zl2 x (64-k):=by
  unfold ziz zl2;rw [UInt64.or_comm,show 64-(64-k)=k by omega]
theorem yfa (a b c d:UInt8):a.toUInt32<<<24|||b.toUInt32<<<16|||c.toUInt32<<<8|||d.toUInt32=(num [a,b,c,d]).toUInt32:=by
  show _=((((((0:UInt64)<<<8|||a.toUInt64)<<<8|||b.toUInt64)<<<8|||c.toUInt64)<<<8|||d.toUInt64)).toUInt32
  have ha:=a.toNat_lt;have hb:=b.toNat_lt;have hc:=c.toNat_lt;have hd:=d.toNat_lt
  have o: ∀(x y k:Nat),y<2^k→x*2^k|||y=x*2^k+y:=fun x y k h=>by
    rw [Nat.mul_comm,←Nat.two_pow_add_eq_or_of_lt h]
  have s64: ∀(x:UInt64) (y:UInt8),x.toNat<72057594037927936→(x<<<8|||y.toUInt64).toNat=x.toNat*2^8+y.toNat:=by
    intro x y hx
    have hy:=y.toNat_lt
    rw [UInt64.toNat_or,UInt64.toNat_shiftLeft,UInt8.toNat_toUInt64]
    show x.toNat<<<8%2^64|||_=_
    rw [Nat.shiftLeft_eq,Nat.mod_eq_of_lt (by omega),o _ _ _ (by omega)]
  have l32: ∀(y:UInt8) (k:Nat),k≤24→(y.toUInt32<<<UInt32.ofNat k).toNat=y.toNat*2^k:=by
    intro y k hk
    have hy:=y.toNat_lt
    have hk2:(UInt32.ofNat k).toNat=k:=by rw [UInt32.toNat_ofNat'];omega
    rw [UInt32.toNat_shiftLeft,hk2,UInt8.toNat_toUInt32,Nat.mod_eq_of_lt (show k<32 by omega),Nat.shiftLeft_eq]
    have:y.toNat*2^k<2^8*2^24:=Nat.mul_lt_mul_of_lt_of_le (by omega) (Nat.pow_le_pow_right (by decide) hk) (by decide)
    exact Nat.mod_eq_of_lt (by omega)
  apply UInt32.toNat_inj.1
  have e1:((0:UInt64)<<<8|||a.toUInt64).toNat=a.toNat:=by rw [s64 _ _ (by decide)];show 0*2^8+_=_;omega
  have e2:=s64 ((0:UInt64)<<<8|||a.toUInt64) b (by omega)
  have e3:=s64 (((0:UInt64)<<<8|||a.toUInt64)<<<8|||b.toUInt64) c (by omega)
  have e4:=s64 ((((0:UInt64)<<<8|||a.toUInt64)<<<8|||b.toUInt64)<<<8|||c.toUInt64) d (by omega)
  rw [UInt64.toNat_toUInt32,e4,e3,e2,e1,UInt32.toNat_or,UInt32.toNat_or,UInt32.toNat_or,UInt8.toNat_toUInt32]
  have g1:=l32 a 24 (by decide)
  have g2:=l32 b 16 (by decide)
  have g3:=l32 c 8 (by decide)
  have f1:(a.toUInt32<<<24).toNat=a.toNat*2^24:=g1
  have f2:(b.toUInt32<<<16).toNat=b.toNat*2^16:=g2
  have f3:(c.toUInt32<<<8).toNat=c.toNat*2^8:=g3
  rw [f1,f2,f3,o a.toNat (b.toNat*2^16) 24 (by omega),show a.toNat*2^24+b.toNat*2^16=(a.toNat*2^8+b.toNat)*2^16 by omega,o _ (c.toNat*2^8) 16 (by omega),
   show (a.toNat*2^8+b.toNat)*2^16+c.toNat*2^8=((a.toNat*2^8+b.toNat)*2^8+c.toNat)*2^8 by omega,o _ d.toNat 8 (by omega)]
  omega
def K32:List UInt32:= [0x428a2f98,0x71374491,0xb5c0fbcf,0xe9b5dba5,0x3956c25b,0x59f111f1,0x923f82a4,0xab1c5ed5,0xd807aa98,0x12835b01,0x243185be,0x550c7dc3,0x72be5d74,0x80deb1fe,0x9bdc06a7,0xc19bf174,0xe49b69c1,0xefbe4786,0x0fc19dc6,0x240ca1cc,0x2de92c6f,0x4a7484aa,0x5cb0a9dc,0x76f988da,0x983e5152,0xa831c66d,0xb00327c8,0xbf597fc7,0xc6e00bf3,0xd5a79147,0x06ca6351,0x14292967,0x27b70a85,0x2e1b2138,0x4d2c6dfc,0x53380d13,0x650a7354,0x766a0abb,0x81c2c92e,0x92722c85,0xa2bfe8a1,0xa81a664b,0xc24b8b70,0xc76c51a3,0xd192e819,0xd6990624,0xf40e3585,0x106aa070,0x19a4c116,0x1e376c08,0x2748774c,0x34b0bcb5,0x391c0cb3,0x4ed8aa4a,0x5b9cca4f,0x682e6ff3,0x748f82ee,0x78a5636f,0x84c87814,0x8cc70208,0x90befffa,0xa4506ceb,0xbef9a3f7,0xc67178f2]
theorem yek: ∀i,i<64→K32.getD i 0=(g64 KC i>>>32).toUInt32:=by decide+kernel
def b32 (H:List UInt32) (s:List UInt8):List UInt32:=(List.range 8).map fun i=>g32 H i+g32 (zcb KC (xb s 64) H 64) i
theorem yaz (H:List UInt32) (s:List UInt8):(b32 H s).length=8:=zz _ _
theorem ycf {H:List UInt64} {h:List UInt32} (e:H=h.map UInt32.toUInt64) (hl:h.length=8):((List.range 8).map fun i=>(g64 H i).toUInt32)=h:=by
  subst e
  rw [yj (g':=fun i=>h.getD i 0) (fun i hi=>?_),zeb hl 0]
  unfold g64
  rw [List.getD_eq_getElem?_getD,List.getElem?_map,List.getD_eq_getElem?_getD,List.getElem?_eq_getElem (by omega)]
  show (h[i]).toUInt64.toUInt32=h[i]
  exact UInt32.toUInt32_toUInt64 _
theorem z54 {H:List UInt64} {h:List UInt32} (e:H=h.map UInt32.toUInt64) (hl:h.length=8) (s:List UInt8):zk9 KC H s=(b32 h s).map UInt32.toUInt64:=by
  have hu:=ycf e hl
  have hg: ∀i,i<8→(g64 H i).toUInt32=g32 h i:=fun i hi=>by
    have:=congrArg (fun l=>l.getD i 0) hu
    rw [zda _ _ hi] at this;exact this
  unfold zk9 b32
  rw [hu,List.map_map]
  exact yj fun i hi=>by rw [hg i hi];rfl
theorem zo8 {n:Int} {k h:List UInt64} (A B:List UInt8): ∀t,bk n*t≤A.length→xc n k h (A++B) t=xc n k h A t
  |0,_=>rfl
  |t+1,ht=>by
   have h1:bk n*(t+1)=bk n*t+bk n:=Nat.mul_succ _ _
   show zaw _ _ _ _=zaw _ _ _ _
   rw [zo8 A B t (by omega),List.drop_append_of_le_length (by omega),List.take_append_of_le_length (by rw [List.length_drop];omega)]
theorem drp {A B:List UInt8} {a:Nat} (h:A.length=a) (k:Nat):(A++B).drop (a+k)=B.drop k:=by
  subst h;rw [List.drop_append,List.drop_of_length_le (by omega),List.nil_append,Nat.add_sub_cancel_left]
theorem zwr {n:Int} {k h:List UInt64} {A B:List UInt8} {a:Nat} (hA:A.length=bk n*a): ∀t,xc n k h (A++B) (a+t)=xc n k (xc n k h A a) B t
  |0=>zo8 A B a (by omega)
  |t+1=>by
   show zaw n k (xc n k h (A++B) (a+t)) (((A++B).drop (bk n*(a+t))).take (bk n))=zaw n k (xc n k (xc n k h A a) B t) ((B.drop (bk n*t)).take (bk n))
   rw [zwr hA t,Nat.mul_add,drp hA]
def ydk (n:Int) (h:List UInt64) (T:List UInt8):List UInt64:=xc n KC h T (T.length/ bk n)
theorem ycq {n:Int} {h:List UInt64} (R s u:List UInt8):wrH n KC (wrH n KC h R s) (wrR n R s) u=wrH n KC h R (s++u)∧wrR n (wrR n R s) u=wrR n R (s++u):=by
  have hb:=zzi n
  unfold wrH wrR
  generalize hX:R++s=X
  have hq:=Nat.div_add_mod X.length (bk n)
  have hql:bk n*(X.length/ bk n)≤X.length:=by omega
  have hsplit:X++u=X.take (bk n*(X.length/ bk n))++(X.drop (bk n*(X.length/ bk n))++u):=by rw [←List.append_assoc,List.take_append_drop]
  have hTl:(X.take (bk n*(X.length/ bk n))).length=bk n*(X.length/ bk n):=by rw [List.length_take];omega
  have hlen:(X++u).length/ bk n=X.length/ bk n+(X.drop (bk n*(X.length/ bk n))++u).length/ bk n:=by
    rw [hsplit,@List.length_append UInt8 (X.take (bk n*(X.length/ bk n))),hTl,Nat.mul_add_div hb]
  have hT:xc n KC h X (X.length/ bk n)=xc n KC h (X.take (bk n*(X.length/ bk n))) (X.length/ bk n):=by
    have:=zo8 (n:=n) (k:=KC) (h:=h) (X.take (bk n*(X.length/ bk n))) (X.drop (bk n*(X.length/ bk n))) (X.length/ bk n) (by omega)
    rw [List.take_append_drop] at this;exact this
  rw [←List.append_assoc,hX]
  constructor
  ·rw [hlen,hsplit,zwr hTl,hT]
  ·rw [hlen,hsplit,Nat.mul_add,drp hTl]
theorem zwm {n:Int} (s:List UInt8):x7 n s=(zho (ydk n (HB n) (s++zi9 n (wrR n [] s).length (UInt64.ofNat s.length))) (bk n/ 16)).take (n/ 8).toNat:=by
  unfold x7 zeu
  rw [(ycq [] s _).1]
  rfl
theorem zz3 {n:Int} {p:List UInt8} (hp:p.length=bk n) (s:List UInt8) (hs:s.length<9223372036854775808):dgF n (wrH n KC (HB n) [] p) s=x7 n (p++s):=by
  have h0:wrR n [] p= []:=List.length_eq_zero_iff.1 (by rw [zfz,hp];show (0+bk n)%bk n=0;rw [Nat.zero_add,Nat.mod_self])
  obtain ⟨h1,h2⟩:=ycq (n:=n) (h:=HB n) [] p s
  rw [h0] at h1 h2
  unfold dgF x7
  rw [h1,h2,List.length_append,hp]
  congr 1
  exact (UInt64.ofNat_add _ _).symm
theorem z6u {n:Int} (key s:List UInt8) (hs:s.length<4611686018427387904) (hn:n=256∨n=384):zn7 n key s=x7 n (pdX (bk n) (kN n key) 92++x7 n (pdX (bk n) (kN n key) 54++s)):=by
  unfold zn7 mP
  rw [zz3 (zaz _ _ _) _ (by rw [zng hn];unfold dl;split<;>decide),zz3 (zaz _ _ _) s (by omega)]
end Go.Sym.Sha
namespace Go.Sym.Sha
open Go.Sym.Lp Go.Sym.Cha Go.Sym.Gcm Go.Sym.Hk
theorem z6b {m:Nat} (hm:m<18446744073709551616) {k:Nat} (hk:k<64):UInt8.ofInt ((m:Int)/ 2^k)=(UInt64.ofNat m>>>UInt64.ofNat k).toUInt8:=by
  have hv:(UInt64.ofNat m).toNat=m:=by rw [UInt64.toNat_ofNat'];omega
  rw [zeg]
  apply UInt8.toNat_inj.1
  rw [UInt64.toNat_toUInt8,UInt8.toNat_ofNat',zkr _ hk,hv]
theorem zv8 (L:Nat) (all:UInt64) (j:Nat): ∀i,i<L→(zcz L all i)[j]?=if L-i≤j∧j<L then some ((all*8)>>>UInt64.ofNat (8*(L-1-j))).toUInt8 else ((List.replicate L (0:UInt8)).set 0 128)[j]?
  |0,_=>by rw [if_neg (by omega)];rfl
  |i+1,h=>by
   show ((zcz L all i).set (L-1-i) _)[j]?=_
   rw [List.getElem?_set,zd3,zv8 L all j i (by omega)]
   by_cases e:L-1-i=j
   ·rw [if_pos e,if_pos (by omega),if_pos (by omega),show L-1-j=i by omega]
   ·rw [if_neg e]
    by_cases h2:L-i≤j∧j<L
    ·rw [if_pos h2,if_pos (by omega)]
    ·rw [if_neg h2,if_neg (by omega)]
theorem z32 {n:Int} {r l:Nat} (h9:9≤zbx n r) (hl:l<2305843009213693952):zi9 n r (UInt64.ofNat l)=128 ::(List.replicate (zbx n r-9) 0++beB ((8*l:Nat):Int) 8):=by
  generalize hL:zbx n r=L at h9
  have hm:UInt64.ofNat l*8=UInt64.ofNat (8*l):=by rw [Nat.mul_comm];exact (UInt64.ofNat_mul _ _).symm
  unfold zi9
  rw [hL]
  apply List.ext_getElem?
  intro j
  rw [zv8 L _ j 8 (by omega)]
  by_cases h1:L-8≤j∧j<L
  ·rw [if_pos h1,hm]
   obtain ⟨k,hk⟩: ∃k,j=1+(L-9)+k:=⟨j-(1+(L-9)),by omega⟩
   rw [show j=(L-9+k)+1 by omega,List.getElem?_cons_succ,List.getElem?_append_right (by rw [List.length_replicate];omega),List.length_replicate,show L-9+k-(L-9)=k by omega]
   unfold beB
   rw [List.getElem?_map,List.getElem?_range (by omega),Option.map_some,z6b (by omega) (by omega)]
   congr 5;omega
  ·rw [if_neg h1]
   cases j with
   |zero=>rw [List.getElem?_set_self (by rw [List.length_replicate];omega)];rfl
   |succ j=>
    rw [List.getElem?_set_ne (by omega),List.getElem?_cons_succ,List.getElem?_replicate]
    by_cases h2:j+1<L
    ·rw [if_pos h2,List.getElem?_append_left (by rw [List.length_replicate];omega),List.getElem?_replicate,if_pos (by omega)]
    ·rw [if_neg h2,List.getElem?_append_right (by rw [List.length_replicate];omega),List.getElem?_eq_none (by rw [zah,List.length_replicate];omega)]
def zR (n:Int) (l:Nat):Nat:=(bk n-(l+1+bk n/ 8)%bk n)%bk n+bk n/ 8-8
theorem zxo (n:Int):bk n=64∨bk n=128:=by unfold bk;split<;>simp
theorem z9v {n:Int} (l:Nat):zbx n (l%bk n)=zR n l+9:=by
  unfold zbx zR
  rcases zxo n with e|e<;>rw [e]<;>omega
def zgs (n:Int) (s:List UInt8):List UInt8:=s++128 ::(List.replicate (zR n s.length) 0++beB ((8*s.length:Nat):Int) 8)
theorem zz0 {n:Int} {s:List UInt8} (h:s.length<2305843009213693952):s++zi9 n (wrR n [] s).length (UInt64.ofNat s.length)=zgs n s:=by
  have e:(wrR n [] s).length=s.length%bk n:=by rw [zfz];show (0+s.length)%_=_;rw [Nat.zero_add]
  have hp:=z9v (n:=n) s.length
  rw [e,z32 (by omega) h,hp]
  rfl
theorem zwh {n:Int} (s:List UInt8):(zgs n s).length%bk n=0∧s.length≤(zgs n s).length∧(zgs n s).length≤s.length+300:=by
  unfold zgs
  rw [List.length_append,List.length_cons,List.length_append,List.length_replicate,zah]
  unfold zR
  rcases zxo n with e|e<;>rw [e]<;>omega
def zd8 (w:List UInt64) (size i:Nat):List UInt8:=(List.range (size*i)).map (outG w size)
theorem z4v {w:List UInt64} {size:Nat} (h:0<size) (i:Nat):zd8 w size (i+1)=zd8 w size i++(List.range size).map fun j=>(g64 w i>>>UInt64.ofNat (8*(size-1-j))).toUInt8:=by
  unfold zd8
  rw [Nat.mul_succ,List.range_add,List.map_append,List.map_map]
  congr 1
  refine yj fun j hj=>?_
  show outG w size (size*i+j)=_
  unfold outG
  rw [Nat.mul_add_div h,Nat.div_eq_of_lt hj,Nat.mul_add_mod,Nat.mod_eq_of_lt hj,Nat.add_zero]
theorem zw3 {w:List UInt64} {size k:Nat} (h:k≤8):(zho w size).take (size*k)=zd8 w size k:=by
  unfold zho zd8
  rw [←List.map_take,List.take_range,Nat.min_eq_left (by rw [Nat.mul_comm 8];exact Nat.mul_le_mul_left _ h)]
theorem be4 (x:UInt32):((List.range 4).map fun j=>(x.toUInt64>>>UInt64.ofNat (8*(4-1-j))).toUInt8)=beB ((x.toNat:Nat):Int) 4:=by
  unfold beB
  have hx:=x.toNat_lt
  refine yj fun j hj=>?_
  rw [z6b (by omega) (by omega)]
  congr 3
  apply UInt64.toNat_inj.1
  rw [UInt32.toNat_toUInt64,UInt64.toNat_ofNat'];omega
theorem ylg (x:UInt64):((List.range 8).map fun j=>(x>>>UInt64.ofNat (8*(8-1-j))).toUInt8)=beB (((x>>>32).toNat:Nat):Int) 4++beB (((x&&&4294967295).toNat:Nat):Int) 4:=by
  have hx:=x.toNat_lt
  have h1:(x>>>32).toNat=x.toNat/ 2^32:=zkr _ (k:=32) (by decide)
  have h2:(x&&&4294967295).toNat=x.toNat%2^32:=by
    rw [UInt64.toNat_and];show x.toNat&&&(2^32-1)=_;rw [Nat.and_two_pow_sub_one_eq_mod]
  rw [h1,h2]
  have b: ∀k,k<64→(x>>>UInt64.ofNat k).toUInt8=UInt8.ofNat (x.toNat/ 2^k):=by
    intro k hk
    apply UInt8.toNat_inj.1
    rw [UInt64.toNat_toUInt8,UInt8.toNat_ofNat',zkr _ hk]
  have hi: ∀k,UInt8.ofInt (((x.toNat/ 2^32:Nat):Int)/ 2^k)=UInt8.ofNat (x.toNat/ 2^(32+k)):=by
    intro k
    rw [zeg,Nat.div_div_eq_div_mul,←Nat.pow_add]
  have lo: ∀k,k<32→k%8=0→UInt8.ofInt (((x.toNat%2^32:Nat):Int)/ 2^k)=UInt8.ofNat (x.toNat/ 2^k):=by
    intro k hk h8
    rw [zeg]
    apply UInt8.toNat_inj.1
    rw [UInt8.toNat_ofNat',UInt8.toNat_ofNat']
    have:k=0∨k=8∨k=16∨k=24:=by omega
    rcases this with rfl|rfl|rfl|rfl<;>omega
  show [_,_,_,_,_,_,_,_]= [UInt8.ofInt (((x.toNat/ 2^32:Nat):Int)/ 2^24),UInt8.ofInt (((x.toNat/ 2^32:Nat):Int)/ 2^16),UInt8.ofInt (((x.toNat/ 2^32:Nat):Int)/ 2^8),UInt8.ofInt (((x.toNat/ 2^32:Nat):Int)/ 2^0),UInt8.ofInt (((x.toNat%2^32:Nat):Int)/ 2^24),UInt8.ofInt (((x.toNat%2^32:Nat):Int)/ 2^16),UInt8.ofInt (((x.toNat%2^32:Nat):Int)/ 2^8),UInt8.ofInt (((x.toNat%2^32:Nat):Int)/ 2^0)]
  rw [hi 24,hi 16,hi 8,hi 0,lo 24 (by decide) rfl,lo 16 (by decide) rfl,lo 8 (by decide) rfl,lo 0 (by decide) rfl]
  rw [←b 56 (by decide),←b 48 (by decide),←b 40 (by decide),←b 32 (by decide),←b 24 (by decide),←b 16 (by decide),←b 8 (by decide),←b 0 (by decide)]
def zkf (H:List UInt32) (T:List UInt8):Nat→List UInt32
  |0=>H
  |t+1=>b32 (zkf H T t) ((T.drop (64*t)).take 64)
theorem zwj {H:List UInt32} (h:H.length=8) (T:List UInt8): ∀t,(zkf H T t).length=8
  |0=>h
  |_+1=>yaz _ _
theorem zz4 {h:List UInt32} {H:List UInt64} (e:H=h.map UInt32.toUInt64) (hl:h.length=8) (T:List UInt8): ∀t,xc 256 KC H T t=(zkf h T t).map UInt32.toUInt64
  |0=>e
  |t+1=>by
   show zaw 256 KC (xc 256 KC H T t) ((T.drop (64*t)).take 64)=_
   unfold zaw
   rw [if_pos rfl,z54 (zz4 e hl T t) (zwj hl T t)]
   rfl
def H32:List UInt32:= [0x6a09e667,0xbb67ae85,0x3c6ef372,0xa54ff53a,0x510e527f,0x9b05688c,0x1f83d9ab,0x5be0cd19]
theorem yez:HB 256=H32.map UInt32.toUInt64:=by decide+kernel
theorem z1z {s:List UInt8} (h:s.length<2305843009213693952):x7 256 s=zd8 ((zkf H32 (zgs 256 s) ((zgs 256 s).length/ 64)).map UInt32.toUInt64) 4 8:=by
  rw [zwm,zz0 h]
  unfold ydk
  rw [show bk 256=64 from rfl,zz4 yez rfl]
  exact zw3 (size:=4) (k:=8) (Nat.le_refl _)
theorem z3w {s:List UInt8} (h:s.length<2305843009213693952):x7 384 s=zd8 (xc 384 KC (HB 384) (zgs 384 s) ((zgs 384 s).length/ 128)) 8 6:=by
  rw [zwm,zz0 h]
  unfold ydk
  rw [show bk 384=128 from rfl]
  exact zw3 (size:=8) (k:=6) (by decide)
end Go.Sym.Sha

namespace Go.Sym.Z
open Go Go.Proofs.Tryz Go.Sym.Lp Go.Sym.Cha Go.Sym.Sha Go.Sym.Hk Go.Sym.Gcm
set_option maxRecDepth 100000
def yir:List (Nat×List PStep):= [(1,[⟨0,[]⟩,⟨1,[0]⟩,⟨2,[]⟩,⟨3,[0,1,2]⟩,⟨4,[0,1,2,3]⟩,⟨5,[0,1,2,3]⟩,⟨6,[0,1,2]⟩,⟨7,[]⟩,⟨8,[]⟩])]
def yhu:List (Nat×List PStep):= [(1,[⟨0,[]⟩,⟨1,[0]⟩,⟨2,[]⟩,⟨3,[0,1,2]⟩,⟨4,[0,1,2,3]⟩,⟨5,[0,1,2,3]⟩,⟨6,[0,1,2]⟩,⟨7,[]⟩,⟨8,[]⟩])]
def yil:List (Nat×List PStep):= [(6,[⟨0,[]⟩,⟨1,[0]⟩,⟨2,[0,1]⟩,⟨3,[0,1]⟩,⟨4,[0]⟩,⟨5,[0]⟩,⟨6,[0]⟩,⟨7,[0,1,2,3,4,5,6]⟩,⟨8,[0,1,2,3,4,5,6,7]⟩,⟨9,[0,1,2,3,4,5,6,7]⟩,⟨10,[0,1,2,3,4,5,6,7]⟩,⟨11,[0,1,2,3,4,5,6]⟩,⟨12,[0,1,2,3,4,5,6]⟩,⟨13,[0,1,2,3,4,5,6]⟩,⟨14,[0]⟩,⟨15,[0,1,2,3,4,5,6,7,8,9,10,11,12,13,14]⟩,⟨16,[0,1,2,3,4,5,6,7,8,9,10,11,12,13,14,15]⟩,⟨17,[0,1,2,3,4,5,6,7,8,9,10,11,12,13,14,15]⟩,⟨18,[0,1,2,3,4,5,6,7,8,9,10,11,12,13,14,15]⟩,⟨19,[0,1,2,3,4,5,6,7,8,9,10,11,12,13,14]⟩,⟨20,[0,1,2,3,4,5,6,7,8,9,10,11,12,13,14]⟩,⟨21,[0,1,2,3,4,5,6,7,8,9,10,11,12,13,14]⟩,⟨22,[0]⟩,⟨23,[0,1,2,3,4,5,6,7,8,9,10,11,12,13,14,15,16,17,18,19,20,21,22]⟩,⟨24,[0,1,2,3,4,5,6,7,8,9,10,11,12,13,14,15,16,17,18,19,20,21,22,23]⟩,⟨25,[0,1,2,3,4,5,6,7,8,9,10,11,12,13,14,15,16,17,18,19,20,21,22,23]⟩,⟨26,[0,1,2,3,4,5,6,7,8,9,10,11,12,13,14,15,16,17,18,19,20,21,22,23]⟩,⟨27,[0,1,2,3,4,5,6,7,8,9,10,11,12,13,14,15,16,17,18,19,20,21,22]⟩,⟨28,[0,1,2,3,4,5,6,7,8,9,10,11,12,13,14,15,16,17,18,19,20,21,22]⟩,⟨29,[0]⟩,⟨30,[]⟩,⟨31,[]⟩]),(10,[⟨0,[]⟩,⟨1,[]⟩,⟨2,[]⟩,⟨3,[]⟩,⟨5,[0,1,2,3]⟩,⟨6,[0,1,2,3]⟩,⟨7,[0,1,2,3]⟩,⟨8,[0,1,2,3]⟩,⟨11,[0,1,2,3,5,6,7,8]⟩,⟨12,[0,1,2,3,5,6,7,8]⟩,⟨13,[0,1,2,3,5,6,7,8]⟩,⟨14,[0,1,2,3,5,6,7,8]⟩,⟨15,[0,1,2,3,5,6,7,8]⟩,⟨4,[5,6,7,8,11,12,13,14,15]⟩,⟨9,[11,12,13,14,15]⟩,⟨10,[11,12,13,14,15]⟩,⟨16,[]⟩,⟨17,[]⟩]),(11,[⟨0,[]⟩,⟨1,[]⟩,⟨2,[]⟩,⟨3,[]⟩,⟨5,[0,1,2,3]⟩,⟨6,[0,1,2,3]⟩,⟨7,[0,1,2,3]⟩,⟨8,[0,1,2,3]⟩,⟨11,[0,1,2,3,5,6,7,8]⟩,⟨12,[0,1,2,3,5,6,7,8]⟩,⟨13,[0,1,2,3,5,6,7,8]⟩,⟨14,[0,1,2,3,5,6,7,8]⟩,⟨15,[0,1,2,3,5,6,7,8]⟩,⟨4,[5,6,7,8,11,12,13,14,15]⟩,⟨9,[11,12,13,14,15]⟩,⟨10,[11,12,13,14,15]⟩,⟨16,[]⟩,⟨17,[]⟩]),(12,[⟨0,[]⟩,⟨1,[0]⟩,⟨2,[0]⟩,⟨3,[0]⟩,⟨4,[0]⟩,⟨5,[0,1,2,3,4]⟩,⟨6,[0]⟩,⟨7,[0,1,2,3,4,5,6]⟩,⟨8,[0,1,2,3,4,5,6]⟩,⟨9,[0,1,2,3,4,5,6]⟩,⟨10,[0,1,2,3,4,5,6]⟩,⟨11,[0]⟩,⟨12,[0,1,2,3,4,5,6,7,8,9,10,11]⟩,⟨13,[0]⟩,⟨14,[]⟩,⟨15,[]⟩]),(17,[⟨0,[]⟩,⟨1,[]⟩,⟨3,[0,1]⟩,⟨4,[0,1]⟩,⟨7,[0,1,3,4]⟩,⟨8,[0,1,3,4]⟩,⟨2,[3,4,7,8]⟩,⟨5,[7,8]⟩,⟨6,[7,8]⟩,⟨9,[6]⟩,⟨10,[]⟩,⟨11,[]⟩]),(18,[⟨0,[]⟩,⟨1,[]⟩,⟨2,[0,1]⟩,⟨3,[]⟩,⟨4,[0,1,2,3]⟩,⟨5,[0,1,2,3]⟩,⟨6,[0,1,2,3,4,5]⟩,⟨7,[0,1,2,3,4,5]⟩,⟨8,[0,1,2,3]⟩,⟨9,[0,1,2,3,4,5,6,7,8]⟩,⟨10,[0,1,2,3,4,5,6,7,8]⟩,⟨11,[0,1,2,3,4,5,6,7,8]⟩,⟨12,[0,1,2,3,4,5,6,7,8,9,10,11]⟩,⟨13,[0,1,2,3,4,5,6,7,8,9,10,11]⟩,⟨14,[0,1,2,3,4,5,6,7,8]⟩,⟨15,[0,1,2,3]⟩,⟨16,[]⟩,⟨17,[0,1,2,3,4,5,6,7,8,9,10,11,12,13,14,15,16]⟩,⟨18,[0,1,2,3,4,5,6,7,8,9,10,11,12,13,14,15,16]⟩,⟨19,[0,1,2,3,4,5,6,7,8,9,10,11,12,13,14,15,16]⟩,⟨20,[]⟩,⟨21,[0,1,2,3,4,5,6,7,8,9,10,11,12,13,14,15,16,17,18,19,20]⟩,⟨22,[0,1,2,3,4,5,6,7,8,9,10,11,12,13,14,15,16,17,18,19,20]⟩,⟨23,[0,1,2,3,4,5,6,7,8,9,10,11,12,13,14,15,16,17,18,19,20]⟩,⟨24,[]⟩,⟨25,[]⟩]),(19,[⟨0,[]⟩,⟨1,[]⟩,⟨3,[0,1]⟩,⟨4,[0,1]⟩,⟨7,[0,1,3,4]⟩,⟨8,[0,1,3,4]⟩,⟨2,[3,4,7,8]⟩,⟨5,[7,8]⟩,⟨6,[7,8]⟩,⟨9,[6]⟩,⟨10,[]⟩,⟨11,[]⟩]),(25,[⟨0,[]⟩,⟨1,[0]⟩,⟨2,[0]⟩,⟨3,[0]⟩,⟨4,[0,1,2,3]⟩,⟨5,[0,1,2,3]⟩,⟨6,[0,1,2,3]⟩,⟨7,[0]⟩,⟨8,[]⟩,⟨9,[]⟩])]
def yhc:List (Nat×List PStep):= [(9,[⟨0,[]⟩,⟨1,[0]⟩,⟨2,[0]⟩,⟨3,[0]⟩,⟨4,[0]⟩,⟨5,[0,1,2,3,4]⟩,⟨6,[0,1,2,3,4,5]⟩,⟨7,[0,1,2,3,4,5]⟩,⟨8,[0,1,2,3,4,5,6,7]⟩,⟨9,[0,1,2,3,4,5]⟩,⟨10,[0,1,2,3,4]⟩,⟨11,[0,1,2,3,4]⟩,⟨12,[0]⟩,⟨13,[]⟩,⟨14,[]⟩]),(13,[⟨0,[]⟩,⟨1,[]⟩,⟨2,[]⟩,⟨3,[]⟩,⟨5,[0,1,2,3]⟩,⟨6,[0,1,2,3]⟩,⟨7,[0,1,2,3]⟩,⟨8,[0,1,2,3]⟩,⟨11,[0,1,2,3,5,6,7,8]⟩,⟨12,[0,1,2,3,5,6,7,8]⟩,⟨13,[0,1,2,3,5,6,7,8]⟩,⟨14,[0,1,2,3,5,6,7,8]⟩,⟨15,[0,1,2,3,5,6,7,8]⟩,⟨4,[5,6,7,8,11,12,13,14,15]⟩,⟨9,[11,12,13,14,15]⟩,⟨10,[11,12,13,14,15]⟩,⟨16,[]⟩,⟨17,[]⟩]),(14,[⟨0,[]⟩,⟨1,[]⟩,⟨2,[]⟩,⟨3,[]⟩,⟨5,[0,1,2,3]⟩,⟨6,[0,1,2,3]⟩,⟨7,[0,1,2,3]⟩,⟨8,[0,1,2,3]⟩,⟨11,[0,1,2,3,5,6,7,8]⟩,⟨12,[0,1,2,3,5,6,7,8]⟩,⟨13,[0,1,2,3,5,6,7,8]⟩,⟨14,[0,1,2,3,5,6,7,8]⟩,⟨15,[0,1,2,3,5,6,7,8]⟩,⟨4,[5,6,7,8,11,12,13,14,15]⟩,⟨9,[11,12,13,14,15]⟩,⟨10,[11,12,13,14,15]⟩,⟨16,[]⟩,⟨17,[]⟩]),(15,[⟨0,[]⟩,⟨1,[0]⟩,⟨2,[0]⟩,⟨3,[0]⟩,⟨4,[0]⟩,⟨5,[0,1,2,3,4]⟩,⟨6,[0]⟩,⟨7,[0,1,2,3,4,5,6]⟩,⟨8,[0,1,2,3,4,5,6]⟩,⟨9,[0,1,2,3,4,5,6]⟩,⟨10,[0,1,2,3,4,5,6]⟩,⟨11,[0]⟩,⟨12,[0,1,2,3,4,5,6,7,8,9,10,11]⟩,⟨13,[0]⟩,⟨14,[]⟩,⟨15,[]⟩]),(20,[⟨0,[]⟩,⟨1,[]⟩,⟨3,[0,1]⟩,⟨4,[0,1]⟩,⟨7,[0,1,3,4]⟩,⟨8,[0,1,3,4]⟩,⟨2,[3,4,7,8]⟩,⟨5,[7,8]⟩,⟨6,[7,8]⟩,⟨9,[6]⟩,⟨10,[]⟩,⟨11,[]⟩]),(21,[⟨0,[]⟩,⟨1,[]⟩,⟨2,[0,1]⟩,⟨3,[]⟩,⟨4,[0,1,2,3]⟩,⟨5,[0,1,2,3]⟩,⟨6,[0,1,2,3,4,5]⟩,⟨7,[0,1,2,3,4,5]⟩,⟨8,[0,1,2,3]⟩,⟨9,[0,1,2,3,4,5,6,7,8]⟩,⟨10,[0,1,2,3,4,5,6,7,8]⟩,⟨11,[0,1,2,3,4,5,6,7,8]⟩,⟨12,[0,1,2,3,4,5,6,7,8,9,10,11]⟩,⟨13,[0,1,2,3,4,5,6,7,8,9,10,11]⟩,⟨14,[0,1,2,3,4,5,6,7,8]⟩,⟨15,[0,1,2,3]⟩,⟨16,[]⟩,⟨17,[0,1,2,3,4,5,6,7,8,9,10,11,12,13,14,15,16]⟩,⟨18,[0,1,2,3,4,5,6,7,8,9,10,11,12,13,14,15,16]⟩,⟨19,[0,1,2,3,4,5,6,7,8,9,10,11,12,13,14,15,16]⟩,⟨20,[]⟩,⟨21,[0,1,2,3,4,5,6,7,8,9,10,11,12,13,14,15,16,17,18,19,20]⟩,⟨22,[0,1,2,3,4,5,6,7,8,9,10,11,12,13,14,15,16,17,18,19,20]⟩,⟨23,[0,1,2,3,4,5,6,7,8,9,10,11,12,13,14,15,16,17,18,19,20]⟩,⟨24,[]⟩,⟨25,[]⟩]),(22,[⟨0,[]⟩,⟨1,[]⟩,⟨3,[0,1]⟩,⟨4,[0,1]⟩,⟨7,[0,1,3,4]⟩,⟨8,[0,1,3,4]⟩,⟨2,[3,4,7,8]⟩,⟨5,[7,8]⟩,⟨6,[7,8]⟩,⟨9,[6]⟩,⟨10,[]⟩,⟨11,[]⟩]),(28,[⟨0,[]⟩,⟨1,[0]⟩,⟨2,[0]⟩,⟨3,[0]⟩,⟨4,[0,1,2,3]⟩,⟨5,[0,1,2,3]⟩,⟨6,[0,1,2,3]⟩,⟨7,[0]⟩,⟨8,[]⟩,⟨9,[]⟩])]
def ykm:List (Nat×TyI):= [(3,ty3),(4,ty4),(5,ty5),(9,ty9),(48,zd5),(51,zee),(113,xv),(99,xo),(242,zgm),(245,zgn),(249,zgk),(239,zgi)]
theorem zc7: ∀t i,xa ykm t=some i→yx prog t i:=(ze zcs (ze zc1 (ze zct (ze zcw (ze zbj (ze zbi (ze zbg (ze zca (ze zws (ze zvb (ze zvv (ze zxg zat))))))))))))
def z41:Spec:=fun args hp K=>match args,hp with
  | [.u32 x,.int k],[]=>Pre (0<k∧k<32) (K (.u32 (zix x k.toNat)) [])
  |_,_=>False
theorem yfy:zp prog 187 z41:=by
  refine zm zc7 zi rfl func187 rfl call187 (D:=yir) ?_ ?_
  ·intro args hp K h
   unfold z41 at h
   split at h
   ·exact Nat.le_of_ble_eq_true rfl
   ·exact h.elim
  ·intro args hp K h
   unfold z41 at h
   split at h
   ·rename_i x k
    obtain ⟨⟨h0,h1⟩,h⟩:=zn h
    have e:(32-k).toNat=32-k.toNat:=by omega
    refine za ?_
    rw [e]
    conv=>whnf
    exact zd [] h
   ·exact h.elim
def zya:Spec:=fun args hp K=>match args,hp with
  | [.u64 x,.int k],[]=>Pre (0<k∧k<64) (K (.u64 (ziz x k.toNat)) [])
  |_,_=>False
theorem ybn:zp prog 188 zya:=by
  refine zm zc7 zi rfl func188 rfl call188 (D:=yhu) ?_ ?_
  ·intro args hp K h
   unfold zya at h
   split at h
   ·exact Nat.le_of_ble_eq_true rfl
   ·exact h.elim
  ·intro args hp K h
   unfold zya at h
   split at h
   ·rename_i x k
    obtain ⟨⟨h0,h1⟩,h⟩:=zn h
    have e:(64-k).toNat=64-k.toNat:=by omega
    refine za ?_
    rw [e]
    conv=>whnf
    exact zd [] h
   ·exact h.elim
theorem w4 {s:List UInt8} {i:Nat} (h:4*i+4≤s.length):(s.getD (4*i) 0).toUInt32<<<24|||(s.getD (4*i+1) 0).toUInt32<<<16|||(s.getD (4*i+2) 0).toUInt32<<<8|||(s.getD (4*i+3) 0).toUInt32=(num ((s.drop (4*i)).take 4)).toUInt32:=by
  rw [Go.Sym.Aes.take4 h];exact yfa _ _ _ _
theorem ydx {b:List UInt8} {i:Nat} (h:16≤i):xb b (i+1)=(xb b i).set i (g32 (xb b i) (i-16)+(zix (g32 (xb b i) (i-15)) 7^^^zix (g32 (xb b i) (i-15)) 18^^^g32 (xb b i) (i-15)>>>3)+g32 (xb b i) (i-7)+(zix (g32 (xb b i) (i-2)) 17^^^zix (g32 (xb b i) (i-2)) 19^^^g32 (xb b i) (i-2)>>>10)):=by
  rw [z5v (by omega),zc8 (by decide),zc8 (by decide),zc8 (by decide),zc8 (by decide)]
  have c: ∀a b c:UInt32,a+b+c=a+c+b:=fun a b c=>by rw [UInt32.add_assoc,UInt32.add_comm b,←UInt32.add_assoc]
  rw [c _ (g32 (xb b i) (i-7))]
  rfl
theorem yfx {b:List UInt8} {i:Nat} (h:16≤i):y8 b (i+1)=(y8 b i).set i (g64 (y8 b i) (i-16)+(ziz (g64 (y8 b i) (i-15)) 1^^^ziz (g64 (y8 b i) (i-15)) 8^^^g64 (y8 b i) (i-15)>>>7)+g64 (y8 b i) (i-7)+(ziz (g64 (y8 b i) (i-2)) 19^^^ziz (g64 (y8 b i) (i-2)) 61^^^g64 (y8 b i) (i-2)>>>6)):=by
  rw [zyx (by omega),zc6 (by decide),zc6 (by decide),zc6 (by decide),zc6 (by decide)]
  have c: ∀a b c:UInt64,a+b+c=a+c+b:=fun a b c=>by rw [UInt64.add_assoc,UInt64.add_comm b,←UInt64.add_assoc]
  rw [c _ (g64 (y8 b i) (i-7))]
  rfl
theorem yhe (k:List UInt64) (w s:List UInt32) (i:Nat):zcb k w s (i+1)=z8o (zcb k w s i) (g64 k i>>>32).toUInt32 (g32 w i):=rfl
theorem yhm (k w s:List UInt64) (i:Nat):zcm k w s (i+1)=z7e (zcm k w s i) (g64 k i) (g64 w i):=rfl
theorem yav (s:List UInt32) (k w:UInt32):z8o s k w=
    [g32 s 7+(zix (g32 s 4) 6^^^zix (g32 s 4) 11^^^zix (g32 s 4) 25)+(g32 s 4&&&g32 s 5^^^ ~~~g32 s 4&&&g32 s 6)+k+w+((zix (g32 s 0) 2^^^zix (g32 s 0) 13^^^zix (g32 s 0) 22)+(g32 s 0&&&g32 s 1^^^g32 s 0&&&g32 s 2^^^g32 s 1&&&g32 s 2)),g32 s 0,g32 s 1,g32 s 2,g32 s 3+(g32 s 7+(zix (g32 s 4) 6^^^zix (g32 s 4) 11^^^zix (g32 s 4) 25)+(g32 s 4&&&g32 s 5^^^ ~~~g32 s 4&&&g32 s 6)+k+w),g32 s 4,g32 s 5,g32 s 6]:=by
  rw [zc8 (by decide),zc8 (by decide),zc8 (by decide),zc8 (by decide),zc8 (by decide),zc8 (by decide)];rfl
theorem ycl (s:List UInt64) (k w:UInt64):z7e s k w=
    [g64 s 7+(ziz (g64 s 4) 14^^^ziz (g64 s 4) 18^^^ziz (g64 s 4) 41)+(g64 s 4&&&g64 s 5^^^ ~~~g64 s 4&&&g64 s 6)+k+w+((ziz (g64 s 0) 28^^^ziz (g64 s 0) 34^^^ziz (g64 s 0) 39)+(g64 s 0&&&g64 s 1^^^g64 s 0&&&g64 s 2^^^g64 s 1&&&g64 s 2)),g64 s 0,g64 s 1,g64 s 2,g64 s 3+(g64 s 7+(ziz (g64 s 4) 14^^^ziz (g64 s 4) 18^^^ziz (g64 s 4) 41)+(g64 s 4&&&g64 s 5^^^ ~~~g64 s 4&&&g64 s 6)+k+w),g64 s 4,g64 s 5,g64 s 6]:=by
  rw [zc6 (by decide),zc6 (by decide),zc6 (by decide),zc6 (by decide),zc6 (by decide),zc6 (by decide)];rfl
theorem yi9 (b:List UInt8) (i:Nat):zcd b (i+1)=zcd b i<<<8|||(b.getD i 0).toUInt64:=rfl
theorem ya0:K32.length=64:=rfl
attribute [local irreducible] zcd xb y8 zcb zcm KC K32
def zlm:Spec:=fun args hp K=>match args,hp with
  | [.arr32 8 H,.str s],[]=>Pre (H.length=8∧s.length=64) (K (.arr32 8 (b32 H s)) [])
  |_,_=>False
set_option maxHeartbeats 8000000 in
theorem zx5:zp prog 180 zlm:=by
  refine zm zc7 (zc yfy zi) rfl func180 rfl call180 (D:=yil) ?_ ?_
  ·intro args hp K h
   unfold zlm at h
   split at h
   ·exact Nat.le_of_ble_eq_true rfl
   ·exact h.elim
  ·intro args hp K h
   unfold zlm at h
   split at h
   ·rename_i H s
    obtain ⟨⟨hH,hs⟩,h⟩:=zn h
    have hKl:K32.length=64:=ya0
    refine za ?_
    refine zt (Ix (16)) (fun q=>⟨[(1,.str s),(2,.ptr 0 0 0 []),(4,.ptr 1 0 0 []),(5,.ptr 2 0 0 []),(6,.ptr 3 0 0 []),(7,.int q.i)],[.mk 239 [.arr32 8 H],.mk 239 [.arr32 8 [0,0,0,0,0,0,0,0]],.mk 249 [.arr32 64 K32],.mk 249 [.arr32 64 (xb s q.i)]]⟩) (fun q=>(16)-q.i) ⟨0,Nat.zero_le _⟩ [0,1,2,3] ?_ ?_
    ·repeat ((conv=>whnf);refine zb ?_)
     conv=>whnf
     refine zu (congrArg (fun x=>SV.agg [SV.arr32 64 x]) (show _=K32 by unfold K32;decide+kernel)) ?_
     repeat ((conv=>whnf);refine zb ?_)
     conv=>whnf
     exact zl (congrArg (fun x=>SV.agg [SV.arr32 64 x]) (show _=xb s 0 by unfold xb;rfl))
    ·intro q
     have hi:=q.hi
     have hwl:=zis s q.i
     have hI:((q.i:Nat):Int).toNat=q.i:=Int.toNat_natCast _
     have hx0:off (yd [] ((q.i:Int)).toNat xv.sz)=q.i:=by rw [zy];show 0+((q.i:Int)).toNat*1=_;omega
     by_cases h4:q.i<16
     ·have i0:(4*(q.i:Int)).toNat=4*q.i:=by omega
      have i1:(4*(q.i:Int)+1).toNat=4*q.i+1:=by omega
      have i2:(4*(q.i:Int)+2).toNat=4*q.i+2:=by omega
      have i3:(4*(q.i:Int)+3).toNat=4*q.i+3:=by omega
      refine za ?_
      refine ⟨⟨q.i+1,h4⟩,[0,1,2,3],by show (16)-(q.i+1)<(16)-q.i;omega,?_⟩
      repeat ((conv=>whnf);refine zb ?_)
      conv=>whnf
      exact zl (congrArg (fun x=>SV.agg [SV.arr32 64 x]) (show _=xb s (q.i+1) by rw [z4l h4,←w4 (by omega),hx0,i0,i1,i2,i3];rfl))
     ·have e4:q.i=16:=by omega
      rw [e4]
      clear hwl hx0 hI h4 hi e4 q
      refine za ?_
      refine zt (Ix (48)) (fun q=>⟨[(1,.str s),(2,.ptr 0 0 0 []),(4,.ptr 1 0 0 []),(5,.ptr 2 0 0 []),(6,.ptr 3 0 0 []),(8,.int (16+(q.i:Int)))],[.mk 239 [.arr32 8 H],.mk 239 [.arr32 8 [0,0,0,0,0,0,0,0]],.mk 249 [.arr32 64 K32],.mk 249 [.arr32 64 (xb s (16+q.i))]]⟩) (fun q=>(48)-q.i) ⟨0,Nat.zero_le _⟩ [0,1,2,3] ?_ ?_
      ·exact zo
      ·intro q
       have hi:=q.hi
       have hwl:=zis s (16+q.i)
       have hx0:off (yd [] (16+(q.i:Int)).toNat xv.sz)=16+q.i:=by rw [zy];show 0+(16+(q.i:Int)).toNat*1=_;omega
       have hx15:off (yd [] (16+(q.i:Int)-15).toNat xv.sz)=16+q.i-15:=by rw [zy];show 0+(16+(q.i:Int)-15).toNat*1=_;omega
       have hx2:off (yd [] (16+(q.i:Int)-2).toNat xv.sz)=16+q.i-2:=by rw [zy];show 0+(16+(q.i:Int)-2).toNat*1=_;omega
       have hx16:off (yd [] (16+(q.i:Int)-16).toNat xv.sz)=16+q.i-16:=by rw [zy];show 0+(16+(q.i:Int)-16).toNat*1=_;omega
       have hx7:off (yd [] (16+(q.i:Int)-7).toNat xv.sz)=16+q.i-7:=by rw [zy];show 0+(16+(q.i:Int)-7).toNat*1=_;omega
       by_cases h4:q.i<48
       ·refine za ?_
        refine ⟨⟨q.i+1,h4⟩,[0,1,2,3],by show (48)-(q.i+1)<(48)-q.i;omega,?_⟩
        repeat ((conv=>whnf);refine zb ?_)
        conv=>whnf
        exact zl (congrArg (fun x=>SV.agg [SV.arr32 64 x]) (show _=xb s (16+(q.i+1)) by rw [hx0,hx15,hx2,hx16,hx7,show 16+(q.i+1)=16+q.i+1 from rfl,ydx (by omega)];rfl))
       ·have e4:q.i=48:=by omega
        rw [e4] at hwl
        rw [e4]
        obtain ⟨V,hV⟩: ∃V,V=xb s 64:=⟨_,rfl⟩
        rw [show 16+48=64 from rfl,←hV] at hwl
        rw [show 16+48=64 from rfl,←hV]
        clear hx0 hx15 hx2 hx16 hx7 h4 hi e4 q
        refine za ?_
        refine zt (Ix (64)) (fun q=>⟨[(1,.str s),(2,.ptr 0 0 0 []),(4,.ptr 1 0 0 []),(5,.ptr 2 0 0 []),(6,.ptr 3 0 0 []),(11,.ptr 4 0 0 []),(12,.int q.i)],[.mk 239 [.arr32 8 H],.mk 239 [.arr32 8 [0,0,0,0,0,0,0,0]],.mk 249 [.arr32 64 K32],.mk 249 [.arr32 64 V],.mk 239 [.arr32 8 (zcb KC V H q.i)]]⟩) (fun q=>(64)-q.i) ⟨0,Nat.zero_le _⟩ [0,1,2,3,4] ?_ ?_
        ·repeat ((conv=>whnf);refine zb ?_)
         conv=>whnf
         exact zl (congrArg (fun x=>SV.agg [SV.arr32 8 x]) (show H=zcb KC V H 0 by unfold zcb;rfl))
        ·intro q
         have hi:=q.hi
         have hrl:=zra (k:=KC) (w:=V) hH q.i
         have hx0:off (yd [] ((q.i:Int)).toNat xv.sz)=q.i:=by rw [zy];show 0+((q.i:Int)).toNat*1=_;omega
         by_cases h4:q.i<64
         ·have hk:=yek q.i h4
          refine za ?_
          conv=>whnf
          refine ⟨⟨q.i+1,h4⟩,[0,1,2,3,4],by show (64)-(q.i+1)<(64)-q.i;omega,?_⟩
          repeat ((conv=>whnf);refine zb ?_)
          conv=>whnf
          exact zl (congrArg (fun x=>SV.agg [SV.arr32 8 x]) (show _=zcb KC V H (q.i+1) by rw [yhe,←hk,yav,hx0];rfl))
         ·have e4:q.i=64:=by omega
          rw [e4] at hrl
          rw [e4]
          obtain ⟨R,hR⟩: ∃R,R=zcb KC V H 64:=⟨_,rfl⟩
          rw [←hR] at hrl
          rw [←hR]
          clear hx0 h4 hi e4 q
          refine za ?_
          refine zt (Ix (8)) (fun q=>⟨[(1,.str s),(2,.ptr 0 0 0 []),(4,.ptr 1 0 0 []),(5,.ptr 2 0 0 []),(6,.ptr 3 0 0 []),(11,.ptr 4 0 0 []),(17,.int q.i)],[.mk 239 [.arr32 8 (ovr H 0 (fun i=>g32 H i+g32 R i) q.i)],.mk 239 [.arr32 8 [0,0,0,0,0,0,0,0]],.mk 249 [.arr32 64 K32],.mk 249 [.arr32 64 V],.mk 239 [.arr32 8 R]]⟩) (fun q=>(8)-q.i) ⟨0,Nat.zero_le _⟩ [0,1,2,3,4] ?_ ?_
          ·exact zo
          ·intro q
           have hi:=q.hi
           have hlo:=ye (l:=H) (a:=0) (i:=q.i) (by omega) (fun i=>g32 H i+g32 R i)
           have hI:((q.i:Int)).toNat=q.i:=Int.toNat_natCast _
           by_cases h4:q.i<8
           ·refine za ?_
            refine ⟨⟨q.i+1,h4⟩,[0,1,2,3,4],by show (8)-(q.i+1)<(8)-q.i;omega,?_⟩
            repeat ((conv=>whnf);refine zb ?_)
            conv=>whnf
            refine zu (congrArg (fun x=>SV.agg [SV.arr32 8 x]) (z8 (by omega) ?hv ?hkk)) ?_
            case hkk=>show ((q.i:Int)).toNat=0+q.i;omega
            case hv=>
              show List.getD (ovr H 0 (fun i=>g32 H i+g32 R i) q.i) ((q.i:Int)).toNat 0+List.getD R ((q.i:Int)).toNat 0=_
              rw [yr (by omega) _ (by omega),hI];rfl
            exact zo
           ·have e4:q.i=8:=by omega
            have hfin:ovr H 0 (fun i=>g32 H i+g32 R i) 8=b32 H s:=by
              rw [y4 hH];unfold b32;rw [←hV,←hR]
            rw [e4,hfin]
            refine za ?_
            exact zd [] h
   ·exact h.elim
theorem zv9 (b:List UInt8): ∀i j,i≤j→j<80→(y8 b i).getD j 0=0
  |0,j,_,h=>by unfold y8;rw [List.getD_eq_getElem?_getD,List.getElem?_replicate,if_pos h];rfl
  |i+1,j,h,h2=>by
   have ih:=zv9 b i j (by omega) h2
   by_cases h16:i<16
   ·rw [zxy h16,List.getD_eq_getElem?_getD,List.getElem?_set_ne (by omega),←List.getD_eq_getElem?_getD];exact ih
   ·rw [zyx h16,List.getD_eq_getElem?_getD,List.getElem?_set_ne (by omega),←List.getD_eq_getElem?_getD];exact ih
def zlr:Spec:=fun args hp K=>match args,hp with
  | [.arr64 8 H,.str s],[]=>Pre (H.length=8∧s.length=128) (K (.arr64 8 (zgp KC H s)) [])
  |_,_=>False
set_option maxHeartbeats 8000000 in
theorem zy0:zp prog 181 zlr:=by
  refine zm zc7 (zc ybn zi) rfl func181 rfl call181 (D:=yhc) ?_ ?_
  ·intro args hp K h
   unfold zlr at h
   split at h
   ·exact Nat.le_of_ble_eq_true rfl
   ·exact h.elim
  ·intro args hp K h
   unfold zlr at h
   split at h
   ·rename_i H s
    obtain ⟨⟨hH,hs⟩,h⟩:=zn h
    have hKl:KC.length=80:=zor
    refine za ?_
    refine zt (Ix (16)) (fun q=>⟨[(1,.str s),(2,.ptr 0 0 0 []),(4,.ptr 1 0 0 []),(5,.ptr 2 0 0 []),(6,.ptr 3 0 0 []),(7,.int q.i)],[.mk 242 [.arr64 8 H],.mk 242 [.arr64 8 [0,0,0,0,0,0,0,0]],.mk 245 [.arr64 80 KC],.mk 245 [.arr64 80 (y8 s q.i)]]⟩) (fun q=>(16)-q.i) ⟨0,Nat.zero_le _⟩ [0,1,2,3] ?_ ?_
    ·repeat ((conv=>whnf);refine zb ?_)
     conv=>whnf
     refine zu (congrArg (fun x=>SV.agg [SV.arr64 80 x]) (show _=KC by unfold KC;decide+kernel)) ?_
     repeat ((conv=>whnf);refine zb ?_)
     conv=>whnf
     exact zl (congrArg (fun x=>SV.agg [SV.arr64 80 x]) (show _=y8 s 0 by unfold y8;rfl))
    ·intro q
     have hi:=q.hi
     have hwl:=ziq s q.i
     have hI:((q.i:Nat):Int).toNat=q.i:=Int.toNat_natCast _
     have hx0:off (yd [] ((q.i:Int)).toNat xo.sz)=q.i:=by rw [zy];show 0+((q.i:Int)).toNat*1=_;omega
     by_cases h4:q.i<16
     ·have hB:((s.drop (8*q.i)).take 8).length=8:=by rw [List.length_take,List.length_drop];omega
      obtain ⟨P,hP⟩: ∃P,P=y8 s q.i:=⟨_,rfl⟩
      have hP0:P.getD q.i 0=0:=by
        rw [hP];exact zv9 s q.i q.i (Nat.le_refl _) (by omega)
      rw [←hP] at hwl
      rw [←hP]
      refine za ?_
      refine zt (Ix (8)) (fun r=>⟨[(1,.str s),(2,.ptr 0 0 0 []),(4,.ptr 1 0 0 []),(5,.ptr 2 0 0 []),(6,.ptr 3 0 0 []),(7,.int q.i),(8,.int r.i)],[.mk 242 [.arr64 8 H],.mk 242 [.arr64 8 [0,0,0,0,0,0,0,0]],.mk 245 [.arr64 80 KC],.mk 245 [.arr64 80 (P.set q.i (zcd ((s.drop (8*q.i)).take 8) r.i))]]⟩) (fun r=>(8)-r.i) ⟨0,Nat.zero_le _⟩ [0,1,2,3] ?_ ?_
      ·repeat ((conv=>whnf);refine zb ?_)
       conv=>whnf
       exact zl (congrArg (fun x=>SV.agg [SV.arr64 80 x]) (show P=P.set q.i (zcd ((s.drop (8*q.i)).take 8) 0) from (by rw [show zcd ((s.drop (8*q.i)).take 8) 0=P.getD q.i 0 by rw [hP0];unfold zcd;rfl,List.getD_eq_getElem?_getD,List.getElem?_eq_getElem (by omega)];exact (List.set_getElem_self _).symm)))
      ·intro r
       have hri:=r.hi
       have hsl:(P.set q.i (zcd ((s.drop (8*q.i)).take 8) r.i)).length=80:=by rw [List.length_set,hwl]
       by_cases h5:r.i<8
       ·have j0:(8*(q.i:Int)+(r.i:Int)).toNat=8*q.i+r.i:=by omega
        refine za ?_
        refine ⟨⟨r.i+1,h5⟩,[0,1,2,3],by show (8)-(r.i+1)<(8)-r.i;omega,?_⟩
        repeat ((conv=>whnf);refine zb ?_)
        conv=>whnf
        exact zl (congrArg (fun x=>SV.agg [SV.arr64 80 x]) (show _=P.set q.i (zcd ((s.drop (8*q.i)).take 8) (r.i+1)) by rw [hx0,List.set_set,List.getD_eq_getElem?_getD,List.getElem?_set_self (by omega),yi9,zh1 h5,j0];rfl))
       ·have e5:r.i=8:=by omega
        rw [e5]
        refine za ?_
        refine ⟨⟨q.i+1,h4⟩,[0,1,2,3],by show 16-(q.i+1)<16-q.i;omega,?_⟩
        repeat ((conv=>whnf);refine zb ?_)
        conv=>whnf
        exact zl (congrArg (fun x=>SV.agg [SV.arr64 80 x]) (show P.set q.i (zcd ((s.drop (8*q.i)).take 8) 8)=y8 s (q.i+1) by rw [zxy h4,hP];unfold num;rw [hB]))
     ·have e4:q.i=16:=by omega
      rw [e4]
      clear hwl hx0 hI h4 hi e4 q
      refine za ?_
      refine zt (Ix (64)) (fun q=>⟨[(1,.str s),(2,.ptr 0 0 0 []),(4,.ptr 1 0 0 []),(5,.ptr 2 0 0 []),(6,.ptr 3 0 0 []),(9,.int (16+(q.i:Int)))],[.mk 242 [.arr64 8 H],.mk 242 [.arr64 8 [0,0,0,0,0,0,0,0]],.mk 245 [.arr64 80 KC],.mk 245 [.arr64 80 (y8 s (16+q.i))]]⟩) (fun q=>(64)-q.i) ⟨0,Nat.zero_le _⟩ [0,1,2,3] ?_ ?_
      ·exact zo
      ·intro q
       have hi:=q.hi
       have hwl:=ziq s (16+q.i)
       have hx0:off (yd [] (16+(q.i:Int)).toNat xo.sz)=16+q.i:=by rw [zy];show 0+(16+(q.i:Int)).toNat*1=_;omega
       have hx15:off (yd [] (16+(q.i:Int)-15).toNat xo.sz)=16+q.i-15:=by rw [zy];show 0+(16+(q.i:Int)-15).toNat*1=_;omega
       have hx2:off (yd [] (16+(q.i:Int)-2).toNat xo.sz)=16+q.i-2:=by rw [zy];show 0+(16+(q.i:Int)-2).toNat*1=_;omega
       have hx16:off (yd [] (16+(q.i:Int)-16).toNat xo.sz)=16+q.i-16:=by rw [zy];show 0+(16+(q.i:Int)-16).toNat*1=_;omega
       have hx7:off (yd [] (16+(q.i:Int)-7).toNat xo.sz)=16+q.i-7:=by rw [zy];show 0+(16+(q.i:Int)-7).toNat*1=_;omega
       by_cases h4:q.i<64
       ·refine za ?_
        refine ⟨⟨q.i+1,h4⟩,[0,1,2,3],by show (64)-(q.i+1)<(64)-q.i;omega,?_⟩
        repeat ((conv=>whnf);refine zb ?_)
        conv=>whnf
        exact zl (congrArg (fun x=>SV.agg [SV.arr64 80 x]) (show _=y8 s (16+(q.i+1)) by rw [hx0,hx15,hx2,hx16,hx7,show 16+(q.i+1)=16+q.i+1 from rfl,yfx (by omega)];rfl))
       ·have e4:q.i=64:=by omega
        rw [e4] at hwl
        rw [e4]
        obtain ⟨V,hV⟩: ∃V,V=y8 s 80:=⟨_,rfl⟩
        rw [show 16+64=80 from rfl,←hV] at hwl
        rw [show 16+64=80 from rfl,←hV]
        clear hx0 hx15 hx2 hx16 hx7 h4 hi e4 q
        refine za ?_
        refine zt (Ix (80)) (fun q=>⟨[(1,.str s),(2,.ptr 0 0 0 []),(4,.ptr 1 0 0 []),(5,.ptr 2 0 0 []),(6,.ptr 3 0 0 []),(12,.ptr 4 0 0 []),(13,.int q.i)],[.mk 242 [.arr64 8 H],.mk 242 [.arr64 8 [0,0,0,0,0,0,0,0]],.mk 245 [.arr64 80 KC],.mk 245 [.arr64 80 V],.mk 242 [.arr64 8 (zcm KC V H q.i)]]⟩) (fun q=>(80)-q.i) ⟨0,Nat.zero_le _⟩ [0,1,2,3,4] ?_ ?_
        ·repeat ((conv=>whnf);refine zb ?_)
         conv=>whnf
         exact zl (congrArg (fun x=>SV.agg [SV.arr64 8 x]) (show H=zcm KC V H 0 by unfold zcm;rfl))
        ·intro q
         have hi:=q.hi
         have hrl:=zr5 (k:=KC) (w:=V) hH q.i
         have hx0:off (yd [] ((q.i:Int)).toNat xo.sz)=q.i:=by rw [zy];show 0+((q.i:Int)).toNat*1=_;omega
         by_cases h4:q.i<80
         ·skip
          refine za ?_
          conv=>whnf
          refine ⟨⟨q.i+1,h4⟩,[0,1,2,3,4],by show (80)-(q.i+1)<(80)-q.i;omega,?_⟩
          repeat ((conv=>whnf);refine zb ?_)
          conv=>whnf
          exact zl (congrArg (fun x=>SV.agg [SV.arr64 8 x]) (show _=zcm KC V H (q.i+1) by rw [yhm,ycl,hx0];rfl))
         ·have e4:q.i=80:=by omega
          rw [e4] at hrl
          rw [e4]
          obtain ⟨R,hR⟩: ∃R,R=zcm KC V H 80:=⟨_,rfl⟩
          rw [←hR] at hrl
          rw [←hR]
          clear hx0 h4 hi e4 q
          refine za ?_
          refine zt (Ix (8)) (fun q=>⟨[(1,.str s),(2,.ptr 0 0 0 []),(4,.ptr 1 0 0 []),(5,.ptr 2 0 0 []),(6,.ptr 3 0 0 []),(12,.ptr 4 0 0 []),(18,.int q.i)],[.mk 242 [.arr64 8 (ovr H 0 (fun i=>g64 H i+g64 R i) q.i)],.mk 242 [.arr64 8 [0,0,0,0,0,0,0,0]],.mk 245 [.arr64 80 KC],.mk 245 [.arr64 80 V],.mk 242 [.arr64 8 R]]⟩) (fun q=>(8)-q.i) ⟨0,Nat.zero_le _⟩ [0,1,2,3,4] ?_ ?_
          ·exact zo
          ·intro q
           have hi:=q.hi
           have hlo:=ye (l:=H) (a:=0) (i:=q.i) (by omega) (fun i=>g64 H i+g64 R i)
           have hI:((q.i:Int)).toNat=q.i:=Int.toNat_natCast _
           by_cases h4:q.i<8
           ·refine za ?_
            refine ⟨⟨q.i+1,h4⟩,[0,1,2,3,4],by show (8)-(q.i+1)<(8)-q.i;omega,?_⟩
            repeat ((conv=>whnf);refine zb ?_)
            conv=>whnf
            refine zu (congrArg (fun x=>SV.agg [SV.arr64 8 x]) (z8 (by omega) ?hv ?hkk)) ?_
            case hkk=>show ((q.i:Int)).toNat=0+q.i;omega
            case hv=>
              show List.getD (ovr H 0 (fun i=>g64 H i+g64 R i) q.i) ((q.i:Int)).toNat 0+List.getD R ((q.i:Int)).toNat 0=_
              rw [yr (by omega) _ (by omega),hI];rfl
            exact zo
           ·have e4:q.i=8:=by omega
            have hfin:ovr H 0 (fun i=>g64 H i+g64 R i) 8=zgp KC H s:=by
              rw [y4 hH];unfold zgp;rw [←hV,←hR]
            rw [e4,hfin]
            refine za ?_
            exact zd [] h
   ·exact h.elim
end Go.Sym.Z
