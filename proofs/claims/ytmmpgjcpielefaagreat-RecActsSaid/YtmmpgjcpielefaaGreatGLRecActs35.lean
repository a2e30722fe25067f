/-
  Contracts of functions of the program, each said of symbolic values, and plain laws; no condition beyond each statement's own.
-/
import Derived.Test.YtmmpgjcpielefaaGreatGLRecActs34
set_option linter.unusedSimpArgs false
set_option linter.unusedVariables false
namespace Go.Sym.Z
open Go Go.Proofs.Tryz Go.Sym.Lp Go.Sym.Gcm Go.Sym.Aes
set_option maxRecDepth 100000
attribute [local irreducible] gst gtg gH enc ks box
def yjw:List (Nat×List PStep):= []
def ykn:List (Nat×List PStep):= [(7,[⟨0,[]⟩,⟨1,[0]⟩,⟨2,[0,1]⟩,⟨3,[0,1,2]⟩,⟨4,[0,1,2,3]⟩,⟨5,[0,1,2]⟩,⟨7,[0,1,2,3,4,5]⟩,⟨8,[0,1,2,3,4,5,7]⟩,⟨9,[0,1,2,3,4,5]⟩,⟨6,[7,8,9]⟩,⟨10,[]⟩])]
theorem ycs {key:List UInt8} (h:key.length=16∨key.length=32):ks key (key.length/ 4) (key.length+28)=gW key:=by
  unfold gW
  rw [show 4*(key.length/ 4+7)=key.length+28 by omega]
theorem z1w {key:List UInt8} (h:key.length=16∨key.length=32):key.length+28=4*gR key:=by unfold gR;omega
theorem zwi {W t nonce aad b:List UInt8} {R:Nat} (h:W.length=16*R) (h1:1≤R):gtg (W++t) R (gH (W++t) R) nonce aad b=gtg W R (gH W R) nonce aad b:=by
  unfold gtg
  rw [zof h h1,ycd h h1]
theorem z8y:zp prog 56 zob:=by
  refine zm yy (zc zvz (zc zwt (zc zjd (zc z52 zi)))) rfl func56 rfl call56 (D:=yjw) ?_ ?_
  ·intro args hp K h
   unfold zob at h
   split at h
   ·exact Nat.le_of_ble_eq_true rfl
   ·exact h.elim
  ·intro args hp K h
   unfold zob at h
   split at h
   ·rename_i key nonce aad s
    by_cases h0:(key.length=16∨key.length=32)∧nonce.length=12∧aad.length≤65536∧(s.length:Int)≤65536+0
    ·rw [if_pos (by rw [Int.add_zero] at h0;exact h0)] at h
     have hd:=decide_eq_true h0
     obtain ⟨hk,hn,ha,hs⟩:=h0
     have hWl:=zqe hk
     have hR:=z1w hk
     have hR7:gR key=key.length/ 4+7:=rfl
     have hwk:=ycs hk
     repeat ((conv=>whnf);first|refine zq ?_|refine zg ?_|refine zf ?_|refine zb ?_|refine zr (by first|exact hd|(rw [hd];rfl)) ?_|refine zj (by first|exact hd|(rw [hd];rfl)) ?_|refine zk (by first|exact hd|(rw [hd];rfl)) ?_)
     conv=>whnf
     refine y3 fun tl=>?_
     have hWt:16*gR key≤(ks key (key.length/ 4) (key.length+28)++tl.l).length:=by rw [hwk,List.length_append];omega
     have hst:=zky (ks key (key.length/ 4) (key.length+28)++tl.l) (gR key) nonce (UInt32.ofNat (Int.toNat 2)) s
     refine za ?_
     refine ⟨gR key,⟨hR,by omega,by omega,hWt,hn,by decide,by decide,by omega⟩,?_⟩
     refine za ?_
     refine ⟨gR key,⟨hR,by omega,by omega,hWt,hn,ha,by omega⟩,?_⟩
     refine za ?_
     have hTl:(gtg (ks key (key.length/ 4) (key.length+28)++tl.l) (gR key) (gH (ks key (key.length/ 4) (key.length+28)++tl.l) (gR key)) nonce aad (gst (ks key (key.length/ 4) (key.length+28)++tl.l) (gR key) nonce (UInt32.ofNat (Int.toNat 2)) s)).length=16:=by unfold gtg;rw [zky,zjg]
     have hp4:(gst (ks key (key.length/ 4) (key.length+28)++tl.l) (gR key) nonce (UInt32.ofNat (Int.toNat 2)) s).length+(gtg (ks key (key.length/ 4) (key.length+28)++tl.l) (gR key) (gH (ks key (key.length/ 4) (key.length+28)++tl.l) (gR key)) nonce aad (gst (ks key (key.length/ 4) (key.length+28)++tl.l) (gR key) nonce (UInt32.ofNat (Int.toNat 2)) s)).length<9223372036854775808:=by omega
     have hE1:(gst (ks key (key.length/ 4) (key.length+28)++tl.l) (gR key) nonce (UInt32.ofNat (Int.toNat 2)) s)=zfm key nonce s:=by
       rw [hwk,zof hWl (by omega)];rfl
     have hE2:(gtg (ks key (key.length/ 4) (key.length+28)++tl.l) (gR key) (gH (ks key (key.length/ 4) (key.length+28)++tl.l) (gR key)) nonce aad (gst (ks key (key.length/ 4) (key.length+28)++tl.l) (gR key) nonce (UInt32.ofNat (Int.toNat 2)) s))=zev key nonce aad (zfm key nonce s):=by
       rw [hE1,hwk]
       exact zwi hWl (by omega)
     refine za ?_
     refine y5 (hp':= []) [] h ?_
     repeat ((conv=>whnf);refine zb ?_)
     conv=>whnf
     exact zl (congrArg (fun y=>SV.tup [SV.str y,SV.int 0]) (by rw [hE1] at hE2 ⊢;rw [hE2];rfl))
    ·rw [if_neg (by rw [Int.add_zero] at h0;exact h0)] at h
     have hd:=decide_eq_false h0
     repeat ((conv=>whnf);first|refine zq ?_|refine zg ?_|refine zf ?_|refine zb ?_|refine zr (by first|exact hd|(rw [hd];rfl)) ?_|refine zj (by first|exact hd|(rw [hd];rfl)) ?_|refine zk (by first|exact hd|(rw [hd];rfl)) ?_)
     conv=>whnf
     exact zd [] h
   ·exact h.elim
theorem z6n:zp prog 99 zhy:=by
  refine zm yy (zc zvz (zc zwt (zc zjd (zc z52 zi)))) rfl func99 rfl call99 (D:=ykn) ?_ ?_
  ·intro args hp K h
   unfold zhy at h
   split at h
   ·exact Nat.le_of_ble_eq_true rfl
   ·exact h.elim
  ·intro args hp K h
   unfold zhy at h
   split at h
   ·rename_i key nonce aad s
    by_cases h0:(key.length=16∨key.length=32)∧nonce.length=12∧aad.length≤65536∧(s.length:Int)≤65536+16
    ·rw [if_pos ⟨h0.1,h0.2.1,h0.2.2.1,by omega⟩] at h
     have hd:=decide_eq_true h0
     obtain ⟨hk,hn,ha,hs⟩:=h0
     have hWl:=zqe hk
     have hR:=z1w hk
     have hR7:gR key=key.length/ 4+7:=rfl
     have hwk:=ycs hk
     by_cases h1:16≤s.length
     ·have hnn:((s.length:Int)-16).toNat=s.length-16:=by omega
      repeat ((conv=>whnf);first|refine zq ?_|refine zg ?_|refine zf ?_|refine zb ?_|refine zr (by first|exact hd|(rw [hd];rfl)) ?_|refine zj (by first|exact hd|(rw [hd];rfl)) ?_|refine zk (by first|exact hd|(rw [hd];rfl)) ?_)
      conv=>whnf
      refine y3 fun tl=>?_
      have hWt:16*gR key≤(ks key (key.length/ 4) (key.length+28)++tl.l).length:=by rw [hwk,List.length_append];omega
      refine za ?_
      refine ⟨gR key,⟨hR,by omega,by omega,hWt,hn,ha,by rw [hnn,List.length_take];omega⟩,?_⟩
      refine za ?_
      have hE2:gtg (ks key (key.length/ 4) (key.length+28)++tl.l) (gR key) (gH (ks key (key.length/ 4) (key.length+28)++tl.l) (gR key)) nonce aad (List.take ((s.length:Int)-16).toNat s)=zev key nonce aad (s.take (s.length-16)):=by
        rw [hnn,hwk]
        exact zwi hWl (by omega)
      by_cases hq:zev key nonce aad (s.take (s.length-16))=s.drop (s.length-16)
      ·rw [if_pos ⟨h1,hq⟩] at h
       have hdq:decide (gtg (ks key (key.length/ 4) (key.length+28)++tl.l) (gR key) (gH (ks key (key.length/ 4) (key.length+28)++tl.l) (gR key)) nonce aad (List.take ((s.length:Int)-16).toNat s)=List.drop ((s.length:Int)-16).toNat s)=true:=decide_eq_true (by rw [hE2,hnn];exact hq)
       repeat ((conv=>whnf);first|refine zq ?_|refine zg ?_|refine zf ?_|refine zb ?_|refine zr (by first|exact hdq|(rw [hdq];rfl)) ?_|refine zj (by first|exact hdq|(rw [hdq];rfl)) ?_|refine zk (by first|exact hdq|(rw [hdq];rfl)) ?_)
       conv=>whnf
       refine ⟨gR key,⟨hR,by omega,by omega,hWt,hn,by decide,by decide,by rw [hnn,List.length_take];omega⟩,?_⟩
       refine za ?_
       refine y5 (hp':= []) [] h ?_
       repeat ((conv=>whnf);refine zb ?_)
       conv=>whnf
       exact zl (congrArg (fun y=>SV.tup [SV.str y,SV.int 0]) (by rw [hwk,hnn,zof hWl (by omega)];rfl))
      ·rw [if_neg fun hh=>hq hh.2] at h
       have hdq:decide (gtg (ks key (key.length/ 4) (key.length+28)++tl.l) (gR key) (gH (ks key (key.length/ 4) (key.length+28)++tl.l) (gR key)) nonce aad (List.take ((s.length:Int)-16).toNat s)=List.drop ((s.length:Int)-16).toNat s)=false:=decide_eq_false (by rw [hE2,hnn];exact hq)
       repeat ((conv=>whnf);first|refine zq ?_|refine zg ?_|refine zf ?_|refine zb ?_|refine zr (by first|exact hdq|(rw [hdq];rfl)) ?_|refine zj (by first|exact hdq|(rw [hdq];rfl)) ?_|refine zk (by first|exact hdq|(rw [hdq];rfl)) ?_)
       conv=>whnf
       exact zd [] h
     ·rw [if_neg fun hh=>h1 hh.1] at h
      repeat ((conv=>whnf);first|refine zq ?_|refine zg ?_|refine zf ?_|refine zb ?_|refine zr (by first|exact hd|(rw [hd];rfl)) ?_|refine zj (by first|exact hd|(rw [hd];rfl)) ?_|refine zk (by first|exact hd|(rw [hd];rfl)) ?_)
      conv=>whnf
      exact zd [] h
    ·rw [if_neg fun hh=>h0 ⟨hh.1,hh.2.1,hh.2.2.1,by omega⟩] at h
     have hd:=decide_eq_false h0
     repeat ((conv=>whnf);first|refine zq ?_|refine zg ?_|refine zf ?_|refine zb ?_|refine zr (by first|exact hd|(rw [hd];rfl)) ?_|refine zj (by first|exact hd|(rw [hd];rfl)) ?_|refine zk (by first|exact hd|(rw [hd];rfl)) ?_)
     conv=>whnf
     exact zd [] h
   ·exact h.elim
end Go.Sym.Z

namespace Go.Sym.Z
open Go Go.Proofs.Tryz Go.Sym.Lp Go.Sym.Pol Go.Sym.Cha
set_option maxRecDepth 100000
attribute [local irreducible] yv xg blk xw rcd zb7
def ygc:List (Nat×List PStep):= []
def yjh:List (Nat×List PStep):= [(7,[⟨0,[]⟩,⟨1,[0]⟩,⟨2,[0]⟩,⟨3,[]⟩,⟨4,[0,1,2,3]⟩,⟨5,[0,1,2,3]⟩,⟨6,[0,1,2,3]⟩,⟨7,[0,1,2,3]⟩,⟨8,[]⟩,⟨9,[0,1,2,3,4,5,6,7,8]⟩,⟨10,[0,1,2,3,4,5,6,7,8]⟩,⟨11,[]⟩,⟨12,[]⟩,⟨13,[]⟩]),(8,[⟨0,[]⟩,⟨1,[]⟩,⟨2,[0,1]⟩,⟨3,[0,1]⟩,⟨4,[0,1]⟩,⟨5,[0,1]⟩,⟨6,[0,1,2,3,4,5]⟩,⟨7,[0,1,2,3,4,5]⟩,⟨8,[0,1,2,3,4,5]⟩,⟨9,[0,1]⟩,⟨10,[]⟩,⟨11,[]⟩]),(18,[⟨0,[]⟩,⟨1,[]⟩,⟨2,[0,1]⟩,⟨3,[0,1]⟩,⟨4,[0,1]⟩,⟨5,[0,1]⟩,⟨6,[0,1,2,3,4,5]⟩,⟨7,[0,1,2,3,4,5]⟩,⟨8,[0,1,2,3,4,5]⟩,⟨9,[0,1]⟩,⟨10,[]⟩,⟨11,[]⟩]),(20,[⟨0,[]⟩,⟨1,[]⟩,⟨2,[0,1]⟩,⟨3,[0,1]⟩,⟨4,[0,1]⟩,⟨5,[0,1]⟩,⟨6,[0,1,2,3,4,5]⟩,⟨7,[0,1,2,3,4,5]⟩,⟨8,[0,1,2,3,4,5]⟩,⟨9,[0,1]⟩,⟨10,[]⟩,⟨11,[]⟩]),(24,[⟨0,[]⟩,⟨1,[0]⟩,⟨2,[0]⟩,⟨3,[0]⟩,⟨4,[0,1,2,3]⟩,⟨5,[0,1,2,3]⟩,⟨6,[0,1,2,3]⟩,⟨7,[0]⟩,⟨8,[]⟩,⟨9,[]⟩]),(26,[⟨0,[]⟩,⟨1,[0]⟩,⟨2,[0]⟩,⟨3,[]⟩,⟨4,[]⟩])]
def zoe:Spec:=fun args hp K=>match args,hp with
  | [.arr64 5 x,.str s],[]=>Pre (x.length=5∧s.length=16) (K (.str (zqf x s)) [])
  |_,_=>False
set_option maxHeartbeats 8000000 in
theorem z24:zp prog 127 zoe:=by
  refine zm y9 (zc zo0 zi) rfl func127 rfl call127 (D:=ygc) ?_ ?_
  ·intro args hp K h
   unfold zoe at h
   split at h
   ·exact Nat.le_of_ble_eq_true rfl
   ·exact h.elim
  ·intro args hp K h
   unfold zoe at h
   split at h
   ·rename_i x s
    obtain ⟨⟨hx,hs⟩,h⟩:=zn h
    have h1:(rcd x).length=5:=by rw [zfs];exact hx
    have h2:(rcd (rcd x)).length=5:=by rw [zfs];exact h1
    obtain ⟨H,hH⟩: ∃H,H=rcd (rcd x):=⟨_,rfl⟩
    have hHl:H.length=5:=by rw [hH];exact h2
    obtain ⟨G,hG⟩: ∃G,G=H.set 0 (g64 H 0+5):=⟨_,rfl⟩
    have hGl:G.length=5:=by rw [hG,List.length_set];exact hHl
    refine za ?_
    rw [←hH]
    refine zt (Ix (5)) (fun q=>⟨[(1,.str s),(2,.ptr 0 0 0 []),(5,.ptr 1 0 0 []),(6,.u64 (zcx G q.i).2),(7,.int q.i)],[.mk 167 [.arr64 5 H],.mk 167 [.arr64 5 (zcx G q.i).1]]⟩) (fun q=>(5)-q.i) ⟨0,Nat.zero_le _⟩ [0,1] ?_ ?_
    ·repeat ((conv=>whnf);refine zb ?_)
     conv=>whnf
     exact zl (congrArg (fun x=>SV.agg [SV.arr64 5 x]) (show H.set 0 (g64 H 0+5)=(zcx G 0).1 by rw [hG];rfl))
    ·intro q
     have hi:=q.hi
     have hl:=zfa G q.i
     have hI:((q.i:Int)).toNat=q.i:=Int.toNat_natCast _
     by_cases h4:q.i<5
     ·refine za ?_
      refine ⟨⟨q.i+1,h4⟩,[0,1],by show (5)-(q.i+1)<(5)-q.i;omega,?_⟩
      exact zo
     ·have e4:q.i=5:=by omega
      have hl5:=zfa G 5
      rw [e4]
      obtain ⟨X,hX⟩: ∃X,X=if UInt64.ofNat 0<(zcx G 5).2 then (zcx G 5).1 else H:=⟨_,rfl⟩
      have hXl:X.length=5:=by rw [hX];split<;>omega
      by_cases h6:UInt64.ofNat 0<(zcx G 5).2
      ·rw [if_pos h6] at hX
       have d6:decide (UInt64.ofNat 0<(zcx G 5).2)=true:=decide_eq_true h6
       repeat ((conv=>whnf);first|refine zq ?_|refine zg ?_|refine zf ?_|refine zb ?_|refine zr (by first|exact d6|(rw [d6];rfl)) ?_|refine zj (by first|exact d6|(rw [d6];rfl)) ?_|refine zk (by first|exact d6|(rw [d6];rfl)) ?_)
       conv=>whnf
       refine zt (Ix (16)) (fun u=>⟨[(1,.str s),(2,.ptr 0 0 0 []),(8,.sl 1 0 0 [] 16 16),(9,.int (rts X s u.i).2),(10,.int u.i)],[.mk 167 [.arr64 5 X],.mk 5 [.arr8 16 (rts X s u.i).1]]⟩) (fun u=>(16)-u.i) ⟨0,Nat.zero_le _⟩ [0,2] ?_ ?_
       ·repeat ((conv=>whnf);refine zb ?_)
        conv=>whnf
        exact zl (congrArg (fun x=>SV.agg [SV.arr64 5 x]) hX.symm)
       ·intro u
        have hui:=u.hi
        have hU:((u.i:Int)).toNat=u.i:=Int.toNat_natCast _
        have hrl:=zim X s u.i
        have hrb:=zs6 X s u.i
        by_cases h7:u.i<16
        ·refine za ?_
         refine zt (Ix (8)) (fun v=>⟨[(1,.str s),(2,.ptr 0 0 0 []),(8,.sl 1 0 0 [] 16 16),(9,.int (rts X s u.i).2),(10,.int u.i),(11,.int (rbv X u.i v.i)),(12,.int v.i)],[.mk 167 [.arr64 5 X],.mk 5 [.arr8 16 (rts X s u.i).1]]⟩) (fun v=>(8)-v.i) ⟨0,Nat.zero_le _⟩ [0,1] ?_ ?_
         ·exact zo
         ·intro v
          have hvi:=v.hi
          have hbv:=zlp X u.i v.i
          by_cases h8:v.i<8
          ·have hq:(8*(u.i:Int)+(v.i:Int)).tdiv 26=(((8*u.i+v.i)/ 26:Nat):Int):=by rw [Int.tdiv_eq_ediv_of_nonneg (by omega)];omega
           have hm:(8*(u.i:Int)+(v.i:Int)).tmod 26=(((8*u.i+v.i)%26:Nat):Int):=by rw [Int.tmod_eq_emod_of_nonneg (by omega)];omega
           have hpd:(26:Int)≠0∧ya ((8*(u.i:Int)+(v.i:Int)).tdiv 26):=⟨by decide,by rw [hq];unfold ya;omega⟩
           have hw:(X.getD (off (yd [] ((8*(u.i:Int)+(v.i:Int)).tdiv 26).toNat xo.sz)) 0>>>UInt64.ofNat ((8*(u.i:Int)+(v.i:Int)).tmod 26).toNat&&&UInt64.ofNat 1).toNat=zgq X (8*u.i+v.i):=by
             rw [hq,hm,Int.toNat_natCast,Int.toNat_natCast,ycw _ (by omega)];rfl
           have hbi:zgq X (8*u.i+v.i)≤1:=by unfold zgq;omega
           have hpw:(X.getD (off (yd [] ((8*(u.i:Int)+(v.i:Int)).tdiv 26).toNat xo.sz)) 0>>>UInt64.ofNat ((8*(u.i:Int)+(v.i:Int)).tmod 26).toNat&&&UInt64.ofNat 1).toNat<9223372036854775808:=by rw [hw];omega
           have hpow:2^v.i≤2^7:=Nat.pow_le_pow_right (by decide) (by omega)
           have hpow0:0<2^v.i:=Nat.pow_pos (by decide)
           have hcm:zgq X (8*u.i+v.i)*2^v.i≤1*2^7:=Nat.mul_le_mul hbi hpow
           have hec:((zgq X (8*u.i+v.i):Nat):Int)*2^v.i=((zgq X (8*u.i+v.i)*2^v.i:Nat):Int):=by rw [Int.natCast_mul,Int.natCast_pow];rfl
           have hsh:((v.i:Int)).toNat<64∧ya (((X.getD (off (yd [] ((8*(u.i:Int)+(v.i:Int)).tdiv 26).toNat xo.sz)) 0>>>UInt64.ofNat ((8*(u.i:Int)+(v.i:Int)).tmod 26).toNat&&&UInt64.ofNat 1).toNat:Int)*2^((v.i:Int)).toNat):=by
             rw [hw,Int.toNat_natCast,hec];unfold ya;omega
           have hor:za5 .or (rbv X u.i v.i:Int) (((X.getD (off (yd [] ((8*(u.i:Int)+(v.i:Int)).tdiv 26).toNat xo.sz)) 0>>>UInt64.ofNat ((8*(u.i:Int)+(v.i:Int)).tmod 26).toNat&&&UInt64.ofNat 1).toNat:Int)*2^((v.i:Int)).toNat)=((rbv X u.i (v.i+1):Nat):Int):=by
             rw [hw,Int.toNat_natCast];exact Go.Sym.Ib.ibits_or_bit hbv hbi h8
           refine za ?_
           rw [hor]
           conv=>whnf
           refine ⟨⟨v.i+1,h8⟩,[0,1],by show (8)-(v.i+1)<(8)-v.i;omega,?_⟩
           exact zo
          ·have e8:v.i=8:=by omega
           have hbv8:rbv X u.i 8<256:=zlp X u.i 8
           have hU2:(s.getD ((u.i:Int)).toNat 0).toNat<256:=(s.getD _ 0).toNat_lt
           have hpf:ya (((rts X s u.i).2:Int)+(rbv X u.i 8:Int)+((s.getD ((u.i:Int)).toNat 0).toNat:Int)):=by unfold ya;omega
           have hsu:(s.getD u.i 0).toNat<256:=(s.getD u.i 0).toNat_lt
           rw [e8]
           refine za ?_
           have hcc:UInt8.ofInt (za5 BinOp.and (((rts X s u.i).2:Int)+(rbv X u.i 8:Int)+((s.getD ((u.i:Int)).toNat 0).toNat:Int)) 255)=UInt8.ofNat ((rts X s u.i).2+rbv X u.i 8+(s.getD u.i 0).toNat):=by
             rw [Go.Sym.Ib.u8_255 (by omega),hU]
             apply UInt8.toNat_inj.1
             have q1:=zem (((rts X s u.i).2:Int)+(rbv X u.i 8:Int)+((s.getD u.i 0).toNat:Int))
             rw [UInt8.toNat_ofNat']
             omega
           conv=>whnf
           refine ⟨⟨u.i+1,h7⟩,[0,1],by show (16)-(u.i+1)<(16)-u.i;omega,?_⟩
           repeat ((conv=>whnf);refine zb ?_)
           conv=>whnf
           exact zl (congrArg (fun x=>SV.agg [SV.arr8 16 x]) (show (rts X s u.i).1.set ((u.i:Int)).toNat _=(rts X s u.i).1.set u.i _ by rw [hcc];rfl))
        ·have e7:u.i=16:=by omega
         have hF:List.take 16 (List.drop (off []) (rts X s 16).1)=zqf x s:=by
           show List.take 16 (List.drop 0 _)=_
           rw [List.drop_zero,List.take_of_length_le (Nat.le_of_eq (zim _ _ _))]
           unfold zqf zh6
           rw [←hH,←hG,if_pos h6,←hX]
         rw [e7]
         refine za ?_
         conv=>whnf
         refine y5 (hp':= []) [] h ?_
         repeat ((conv=>whnf);refine zb ?_)
         conv=>whnf
         exact zl (congrArg SV.str hF)
      ·rw [if_neg h6] at hX
       have d6:decide (UInt64.ofNat 0<(zcx G 5).2)=false:=decide_eq_false h6
       repeat ((conv=>whnf);first|refine zq ?_|refine zg ?_|refine zf ?_|refine zb ?_|refine zr (by first|exact d6|(rw [d6];rfl)) ?_|refine zj (by first|exact d6|(rw [d6];rfl)) ?_|refine zk (by first|exact d6|(rw [d6];rfl)) ?_)
       conv=>whnf
       refine zt (Ix (16)) (fun u=>⟨[(1,.str s),(2,.ptr 0 0 0 []),(8,.sl 1 0 0 [] 16 16),(9,.int (rts X s u.i).2),(10,.int u.i)],[.mk 167 [.arr64 5 X],.mk 5 [.arr8 16 (rts X s u.i).1]]⟩) (fun u=>(16)-u.i) ⟨0,Nat.zero_le _⟩ [0,2] ?_ ?_
       ·repeat ((conv=>whnf);refine zb ?_)
        conv=>whnf
        exact zl (congrArg (fun x=>SV.agg [SV.arr64 5 x]) hX.symm)
       ·intro u
        have hui:=u.hi
        have hU:((u.i:Int)).toNat=u.i:=Int.toNat_natCast _
        have hrl:=zim X s u.i
        have hrb:=zs6 X s u.i
        by_cases h7:u.i<16
        ·refine za ?_
         refine zt (Ix (8)) (fun v=>⟨[(1,.str s),(2,.ptr 0 0 0 []),(8,.sl 1 0 0 [] 16 16),(9,.int (rts X s u.i).2),(10,.int u.i),(11,.int (rbv X u.i v.i)),(12,.int v.i)],[.mk 167 [.arr64 5 X],.mk 5 [.arr8 16 (rts X s u.i).1]]⟩) (fun v=>(8)-v.i) ⟨0,Nat.zero_le _⟩ [0,1] ?_ ?_
         ·exact zo
         ·intro v
          have hvi:=v.hi
          have hbv:=zlp X u.i v.i
          by_cases h8:v.i<8
          ·have hq:(8*(u.i:Int)+(v.i:Int)).tdiv 26=(((8*u.i+v.i)/ 26:Nat):Int):=by rw [Int.tdiv_eq_ediv_of_nonneg (by omega)];omega
           have hm:(8*(u.i:Int)+(v.i:Int)).tmod 26=(((8*u.i+v.i)%26:Nat):Int):=by rw [Int.tmod_eq_emod_of_nonneg (by omega)];omega
           have hpd:(26:Int)≠0∧ya ((8*(u.i:Int)+(v.i:Int)).tdiv 26):=⟨by decide,by rw [hq];unfold ya;omega⟩
           have hw:(X.getD (off (yd [] ((8*(u.i:Int)+(v.i:Int)).tdiv 26).toNat xo.sz)) 0>>>UInt64.ofNat ((8*(u.i:Int)+(v.i:Int)).tmod 26).toNat&&&UInt64.ofNat 1).toNat=zgq X (8*u.i+v.i):=by
             rw [hq,hm,Int.toNat_natCast,Int.toNat_natCast,ycw _ (by omega)];rfl
           have hbi:zgq X (8*u.i+v.i)≤1:=by unfold zgq;omega
           have hpw:(X.getD (off (yd [] ((8*(u.i:Int)+(v.i:Int)).tdiv 26).toNat xo.sz)) 0>>>UInt64.ofNat ((8*(u.i:Int)+(v.i:Int)).tmod 26).toNat&&&UInt64.ofNat 1).toNat<9223372036854775808:=by rw [hw];omega
           have hpow:2^v.i≤2^7:=Nat.pow_le_pow_right (by decide) (by omega)
           have hpow0:0<2^v.i:=Nat.pow_pos (by decide)
           have hcm:zgq X (8*u.i+v.i)*2^v.i≤1*2^7:=Nat.mul_le_mul hbi hpow
           have hec:((zgq X (8*u.i+v.i):Nat):Int)*2^v.i=((zgq X (8*u.i+v.i)*2^v.i:Nat):Int):=by rw [Int.natCast_mul,Int.natCast_pow];rfl
           have hsh:((v.i:Int)).toNat<64∧ya (((X.getD (off (yd [] ((8*(u.i:Int)+(v.i:Int)).tdiv 26).toNat xo.sz)) 0>>>UInt64.ofNat ((8*(u.i:Int)+(v.i:Int)).tmod 26).toNat&&&UInt64.ofNat 1).toNat:Int)*2^((v.i:Int)).toNat):=by
             rw [hw,Int.toNat_natCast,hec];unfold ya;omega
           have hor:za5 .or (rbv X u.i v.i:Int) (((X.getD (off (yd [] ((8*(u.i:Int)+(v.i:Int)).tdiv 26).toNat xo.sz)) 0>>>UInt64.ofNat ((8*(u.i:Int)+(v.i:Int)).tmod 26).toNat&&&UInt64.ofNat 1).toNat:Int)*2^((v.i:Int)).toNat)=((rbv X u.i (v.i+1):Nat):Int):=by
             rw [hw,Int.toNat_natCast];exact Go.Sym.Ib.ibits_or_bit hbv hbi h8
           refine za ?_
           rw [hor]
           conv=>whnf
           refine ⟨⟨v.i+1,h8⟩,[0,1],by show (8)-(v.i+1)<(8)-v.i;omega,?_⟩
           exact zo
          ·have e8:v.i=8:=by omega
           have hbv8:rbv X u.i 8<256:=zlp X u.i 8
           have hU2:(s.getD ((u.i:Int)).toNat 0).toNat<256:=(s.getD _ 0).toNat_lt
           have hpf:ya (((rts X s u.i).2:Int)+(rbv X u.i 8:Int)+((s.getD ((u.i:Int)).toNat 0).toNat:Int)):=by unfold ya;omega
           have hsu:(s.getD u.i 0).toNat<256:=(s.getD u.i 0).toNat_lt
           rw [e8]
           refine za ?_
           have hcc:UInt8.ofInt (za5 BinOp.and (((rts X s u.i).2:Int)+(rbv X u.i 8:Int)+((s.getD ((u.i:Int)).toNat 0).toNat:Int)) 255)=UInt8.ofNat ((rts X s u.i).2+rbv X u.i 8+(s.getD u.i 0).toNat):=by
             rw [Go.Sym.Ib.u8_255 (by omega),hU]
             apply UInt8.toNat_inj.1
             have q1:=zem (((rts X s u.i).2:Int)+(rbv X u.i 8:Int)+((s.getD u.i 0).toNat:Int))
             rw [UInt8.toNat_ofNat']
             omega
           conv=>whnf
           refine ⟨⟨u.i+1,h7⟩,[0,1],by show (16)-(u.i+1)<(16)-u.i;omega,?_⟩
           repeat ((conv=>whnf);refine zb ?_)
           conv=>whnf
           exact zl (congrArg (fun x=>SV.agg [SV.arr8 16 x]) (show (rts X s u.i).1.set ((u.i:Int)).toNat _=(rts X s u.i).1.set u.i _ by rw [hcc];rfl))
        ·have e7:u.i=16:=by omega
         have hF:List.take 16 (List.drop (off []) (rts X s 16).1)=zqf x s:=by
           show List.take 16 (List.drop 0 _)=_
           rw [List.drop_zero,List.take_of_length_le (Nat.le_of_eq (zim _ _ _))]
           unfold zqf zh6
           rw [←hH,←hG,if_neg h6,←hX]
         rw [e7]
         refine za ?_
         conv=>whnf
         refine y5 (hp':= []) [] h ?_
         repeat ((conv=>whnf);refine zb ?_)
         conv=>whnf
         exact zl (congrArg SV.str hF)
   ·exact h.elim
end Go.Sym.Z

namespace Go.Sym.Pol
def x1 (P:Nat→Bool):Nat→List UInt64
  |0=> [0,0,0,0,0]
  |i+1=>if P i=true then (x1 P i).set (i/ 26) (g64 (x1 P i) (i/ 26)|||UInt64.ofNat 1<<<UInt64.ofNat (i%26)) else x1 P i
theorem zbs (P:Nat→Bool): ∀i,(x1 P i).length=5
  |0=>rfl
  |i+1=>by simp only [x1];split<;>simp [zbs P i]
theorem zlo {P:Nat→Bool} {i:Nat} (h:P i=true):x1 P (i+1)=(x1 P i).set (i/ 26) (g64 (x1 P i) (i/ 26)|||UInt64.ofNat 1<<<UInt64.ofNat (i%26)):=by simp only [x1];rw [if_pos h]
theorem zo3 {P:Nat→Bool} {i:Nat} (h:P i=false):x1 P (i+1)=x1 P i:=by simp only [x1];rw [if_neg (by rw [h];decide)]
def zu9:List UInt8:= [255,255,255,15,252,255,255,15,252,255,255,15,252,255,255,15]
def zaj (key:List UInt8) (i:Nat):Bool:=decide ((key.getD (i/ 8) 0&&&zu9.getD (i/ 8) 0)>>>UInt8.ofNat (i%8)&&&UInt8.ofNat 1=UInt8.ofNat 1)
def zc2 (s:List UInt8) (at' i:Nat):Bool:=decide (s.getD (at'+i/ 8) 0>>>UInt8.ofNat (i%8)&&&UInt8.ofNat 1=UInt8.ofNat 1)
def zqi (s:List UInt8) (at' n:Nat):List UInt64:=
  (x1 (zc2 s at') (8*n)).set (8*n/ 26) (g64 (x1 (zc2 s at') (8*n)) (8*n/ 26)|||UInt64.ofNat 1<<<UInt64.ofNat (8*n%26))
theorem zhx (s:List UInt8) (at' n:Nat):(zqi s at' n).length=5:=by unfold zqi;rw [List.length_set];exact zbs _ _
def zg8 (x y:List UInt64):Nat→List UInt64
  |0=>x
  |i+1=>(zg8 x y i).set i (g64 (zg8 x y i) i+g64 y i)
theorem zpc (x y:List UInt64): ∀i,(zg8 x y i).length=x.length
  |0=>rfl
  |i+1=>by simp only [zg8,List.length_set];exact zpc x y i
def zec (key s:List UInt8):Nat→List UInt64
  |0=> [0,0,0,0,0]
  |t+1=>zb7 (zg8 (zec key s t) (zqi s (16*t) (min 16 (s.length-16*t))) 5) (x1 (zaj key) 128)
theorem zp7 (key s:List UInt8): ∀t,(zec key s t).length=5
  |0=>rfl
  |_+1=>zyi _ _
def zi5 (key s:List UInt8):List UInt8:=zqf (zec key s ((s.length+15)/ 16)) (key.drop 16)
end Go.Sym.Pol
namespace Go.Sym.Pol
def yeo (s:List UInt8):Nat→List UInt64
  |0=> [0,0,0,0,0]
  |t+1=>zqi s (16*t) (min 16 (s.length-16*t))
theorem z4u (s:List UInt8): ∀t,(yeo s t).length=5
  |0=>rfl
  |_+1=>zhx _ _ _
end Go.Sym.Pol

namespace Go.Sym.Z
open Go Go.Proofs.Tryz Go.Sym.Lp Go.Sym.Pol Go.Sym.Cha
set_option maxRecDepth 100000
attribute [local irreducible] yv xg blk xw rcd zb7 zqf x1 zec zg8
def zyw:Spec:=fun args hp K=>match args,hp with
  | [.str key,.str s],[]=>Pre (key.length=32∧s.length≤1000000) (K (.str (zi5 key s)) [])
  |_,_=>False
set_option maxHeartbeats 8000000 in
theorem ybc:zp prog 103 zyw:=by
  refine zm y9 (zc zyg (zc z24 zi)) rfl func103 rfl call103 (D:=yjh) ?_ ?_
  ·intro args hp K h
   unfold zyw at h
   split at h
   ·exact Nat.le_of_ble_eq_true rfl
   ·exact h.elim
  ·intro args hp K h
   unfold zyw at h
   split at h
   ·rename_i key s
    obtain ⟨⟨hk,hs⟩,h⟩:=zn h
    have hml:zu9.length=16:=rfl
    refine za ?_
    refine zt (Ix (128)) (fun q=>⟨[(0,.str key),(1,.str s),(5,.ptr 0 0 0 []),(6,.ptr 1 0 0 []),(7,.ptr 2 0 0 []),(8,.ptr 3 0 0 []),(9,.int q.i)],[.mk 167 [.arr64 5 (x1 (zaj key) q.i)],.mk 167 [.arr64 5 [0,0,0,0,0]],.mk 167 [.arr64 5 [0,0,0,0,0]],.mk 168 [.arr8 16 zu9]]⟩) (fun q=>(128)-q.i) ⟨0,Nat.zero_le _⟩ [0,1,2,3] ?_ ?_
    ·repeat ((conv=>whnf);refine zb ?_)
     conv=>whnf
     exact zl (congrArg (fun x=>SV.agg [SV.arr64 5 x]) (show [0,0,0,0,0]=x1 (zaj key) 0 by unfold x1;rfl))
    ·intro q
     have hi:=q.hi
     have hl:=zbs (zaj key) q.i
     by_cases h4:q.i<128
     ·have hm8:(q.i:Int).tmod 8=((q.i%8:Nat):Int):=by rw [Int.tmod_eq_emod_of_nonneg (by omega)];omega
      have hd8:(q.i:Int).tdiv 8=((q.i/ 8:Nat):Int):=by rw [Int.tdiv_eq_ediv_of_nonneg (by omega)];omega
      have hm26:(q.i:Int).tmod 26=((q.i%26:Nat):Int):=by rw [Int.tmod_eq_emod_of_nonneg (by omega)];omega
      have hd26:(q.i:Int).tdiv 26=((q.i/ 26:Nat):Int):=by rw [Int.tdiv_eq_ediv_of_nonneg (by omega)];omega
      have hp8:(8:Int)≠0∧ya ((q.i:Int).tdiv 8):=⟨by decide,by rw [hd8];unfold ya;omega⟩
      have hp26:(26:Int)≠0∧ya ((q.i:Int).tdiv 26):=⟨by decide,by rw [hd26];unfold ya;omega⟩
      have hcd:decide ((key.getD ((q.i:Int).tdiv 8).toNat 0&&&zu9.getD (off (yd [] ((q.i:Int).tdiv 8).toNat ty5.sz)) 0)>>>UInt8.ofNat ((q.i:Int).tmod 8).toNat&&&UInt8.ofNat 1=UInt8.ofNat 1)=zaj key q.i:=by
        rw [hd8,hm8,Int.toNat_natCast,Int.toNat_natCast];rfl
      have hI:((q.i:Int).tdiv 26).toNat=q.i/ 26:=by omega
      by_cases hb:zaj key q.i=true
      ·rw [hb] at hcd
       have hn:=zlo hb
       repeat ((conv=>whnf);first|refine zq ?_|refine zg ?_|refine zf ?_|refine zb ?_|refine zr (by first|exact hcd|(rw [hcd];rfl)) ?_|refine zj (by first|exact hcd|(rw [hcd];rfl)) ?_|refine zk (by first|exact hcd|(rw [hcd];rfl)) ?_)
       conv=>whnf
       rw [hm26,Int.toNat_natCast,hI]
       conv=>whnf
       refine ⟨⟨q.i+1,h4⟩,[0,1,2,3],by show (128)-(q.i+1)<(128)-q.i;omega,?_⟩
       repeat ((conv=>whnf);refine zb ?_)
       conv=>whnf
       exact zl (congrArg (fun x=>SV.agg [SV.arr64 5 x]) hn.symm)
      ·have hb2:zaj key q.i=false:=by cases hh:zaj key q.i with|true=>exact absurd hh hb|false=>rfl
       rw [hb2] at hcd
       have hn:=zo3 hb2
       repeat ((conv=>whnf);first|refine zq ?_|refine zg ?_|refine zf ?_|refine zb ?_|refine zr (by first|exact hcd|(rw [hcd];rfl)) ?_|refine zj (by first|exact hcd|(rw [hcd];rfl)) ?_|refine zk (by first|exact hcd|(rw [hcd];rfl)) ?_)
       conv=>whnf
       refine ⟨⟨q.i+1,h4⟩,[0,1,2,3],by show (128)-(q.i+1)<(128)-q.i;omega,?_⟩
       repeat ((conv=>whnf);refine zb ?_)
       conv=>whnf
       exact zl (congrArg (fun x=>SV.agg [SV.arr64 5 x]) hn.symm)
     ·have e4:q.i=128:=by omega
      rw [e4]
      obtain ⟨R,hR⟩: ∃R,R=x1 (zaj key) 128:=⟨_,rfl⟩
      have hRl:R.length=5:=by rw [hR];exact zbs _ _
      rw [←hR]
      refine za ?_
      refine zt (Ix (((s.length+15)/ 16))) (fun t=>⟨[(0,.str key),(1,.str s),(5,.ptr 0 0 0 []),(6,.ptr 1 0 0 []),(7,.ptr 2 0 0 []),(10,.int (16*(t.i:Int)))],[.mk 167 [.arr64 5 R],.mk 167 [.arr64 5 (zec key s t.i)],.mk 167 [.arr64 5 (yeo s t.i)]]⟩) (fun t=>(((s.length+15)/ 16))-t.i) ⟨0,Nat.zero_le _⟩ [0,1,2] ?_ ?_
      ·repeat ((conv=>whnf);refine zb ?_)
       conv=>whnf
       exact zl (congrArg (fun x=>SV.agg [SV.arr64 5 x]) (show [0,0,0,0,0]=zec key s 0 by unfold zec;rfl))
      ·intro t
       have hti:=t.hi
       have hal:=zp7 key s t.i
       have hwl:=z4u s t.i
       by_cases h5:16*t.i<s.length
       ·obtain ⟨n,hn⟩: ∃n,n=min 16 (s.length-16*t.i):=⟨_,rfl⟩
        have hn0:0<n:=by omega
        have hn16:n≤16:=by omega
        have hns:16*t.i+n≤s.length:=by omega
        have hmin:min (16*(t.i:Int)+16) (s.length:Int)=((16*t.i+n:Nat):Int):=by omega
        refine za ?_
        rw [hmin]
        refine zt (Ix ((8*n))) (fun b=>⟨[(0,.str key),(1,.str s),(5,.ptr 0 0 0 []),(6,.ptr 1 0 0 []),(7,.ptr 2 0 0 []),(10,.int (16*(t.i:Int))),(11,.int ((16*t.i+n:Nat):Int)),(12,.int b.i)],[.mk 167 [.arr64 5 R],.mk 167 [.arr64 5 (zec key s t.i)],.mk 167 [.arr64 5 (x1 (zc2 s (16*t.i)) b.i)]]⟩) (fun b=>((8*n))-b.i) ⟨0,Nat.zero_le _⟩ [0,1,2] ?_ ?_
        ·repeat ((conv=>whnf);refine zb ?_)
         conv=>whnf
         exact zl (congrArg (fun x=>SV.agg [SV.arr64 5 x]) (show [0,0,0,0,0]=x1 (zc2 s (16*t.i)) 0 by unfold x1;rfl))
        ·intro b
         have hbi:=b.hi
         have hbl:=zbs (zc2 s (16*t.i)) b.i
         by_cases h6:b.i<8*n
         ·have hm8:(b.i:Int).tmod 8=((b.i%8:Nat):Int):=by rw [Int.tmod_eq_emod_of_nonneg (by omega)];omega
          have hd8:(b.i:Int).tdiv 8=((b.i/ 8:Nat):Int):=by rw [Int.tdiv_eq_ediv_of_nonneg (by omega)];omega
          have hm26:(b.i:Int).tmod 26=((b.i%26:Nat):Int):=by rw [Int.tmod_eq_emod_of_nonneg (by omega)];omega
          have hd26:(b.i:Int).tdiv 26=((b.i/ 26:Nat):Int):=by rw [Int.tdiv_eq_ediv_of_nonneg (by omega)];omega
          have hp8:(8:Int)≠0∧ya ((b.i:Int).tdiv 8):=⟨by decide,by rw [hd8];unfold ya;omega⟩
          have hp26:(26:Int)≠0∧ya ((b.i:Int).tdiv 26):=⟨by decide,by rw [hd26];unfold ya;omega⟩
          have hI:((b.i:Int).tdiv 26).toNat=b.i/ 26:=by omega
          have hA:(16*(t.i:Int)+(b.i:Int).tdiv 8).toNat=16*t.i+b.i/ 8:=by omega
          have hcd:decide (s.getD (16*(t.i:Int)+(b.i:Int).tdiv 8).toNat 0>>>UInt8.ofNat ((b.i:Int).tmod 8).toNat&&&UInt8.ofNat 1=UInt8.ofNat 1)=zc2 s (16*t.i) b.i:=by
            rw [hA,hm8,Int.toNat_natCast];rfl
          by_cases hb:zc2 s (16*t.i) b.i=true
          ·rw [hb] at hcd
           have hnx:=zlo hb
           repeat ((conv=>whnf);first|refine zq ?_|refine zg ?_|refine zf ?_|refine zb ?_|refine zr (by first|exact hcd|(rw [hcd];rfl)) ?_|refine zj (by first|exact hcd|(rw [hcd];rfl)) ?_|refine zk (by first|exact hcd|(rw [hcd];rfl)) ?_)
           conv=>whnf
           rw [hm26,Int.toNat_natCast,hI]
           conv=>whnf
           refine ⟨⟨b.i+1,h6⟩,[0,1,2],by show ((8*n))-(b.i+1)<((8*n))-b.i;omega,?_⟩
           repeat ((conv=>whnf);refine zb ?_)
           conv=>whnf
           exact zl (congrArg (fun x=>SV.agg [SV.arr64 5 x]) hnx.symm)
          ·have hb2:zc2 s (16*t.i) b.i=false:=by cases hh:zc2 s (16*t.i) b.i with|true=>exact absurd hh hb|false=>rfl
           rw [hb2] at hcd
           have hnx:=zo3 hb2
           repeat ((conv=>whnf);first|refine zq ?_|refine zg ?_|refine zf ?_|refine zb ?_|refine zr (by first|exact hcd|(rw [hcd];rfl)) ?_|refine zj (by first|exact hcd|(rw [hcd];rfl)) ?_|refine zk (by first|exact hcd|(rw [hcd];rfl)) ?_)
           conv=>whnf
           refine ⟨⟨b.i+1,h6⟩,[0,1,2],by show ((8*n))-(b.i+1)<((8*n))-b.i;omega,?_⟩
           repeat ((conv=>whnf);refine zb ?_)
           conv=>whnf
           exact zl (congrArg (fun x=>SV.agg [SV.arr64 5 x]) hnx.symm)
         ·have e6:b.i=8*n:=by omega
          have hbl8:=zbs (zc2 s (16*t.i)) (8*n)
          have hJ:(8*(((16*t.i+n:Nat):Int)-16*(t.i:Int)))=((8*n:Nat):Int):=by omega
          have hm26:(8*(((16*t.i+n:Nat):Int)-16*(t.i:Int))).tmod 26=((8*n%26:Nat):Int):=by rw [hJ,Int.tmod_eq_emod_of_nonneg (by omega)];omega
          have hd26:(8*(((16*t.i+n:Nat):Int)-16*(t.i:Int))).tdiv 26=((8*n/ 26:Nat):Int):=by rw [hJ,Int.tdiv_eq_ediv_of_nonneg (by omega)];omega
          have hp26:(26:Int)≠0∧ya ((8*(((16*t.i+n:Nat):Int)-16*(t.i:Int))).tdiv 26):=⟨by decide,by rw [hd26];unfold ya;omega⟩
          have hI:((8*(((16*t.i+n:Nat):Int)-16*(t.i:Int))).tdiv 26).toNat=8*n/ 26:=by omega
          obtain ⟨L,hL⟩: ∃L,L=zqi s (16*t.i) n:=⟨_,rfl⟩
          have hLl:L.length=5:=by rw [hL];exact zhx _ _ _
          have hLw:yeo s (t.i+1)=L:=by rw [hL,hn];rfl
          rw [e6]
          refine za ?_
          rw [hm26,Int.toNat_natCast,hI]
          refine zt (Ix (5)) (fun a=>⟨[(0,.str key),(1,.str s),(5,.ptr 0 0 0 []),(6,.ptr 1 0 0 []),(7,.ptr 2 0 0 []),(10,.int (16*(t.i:Int))),(14,.int a.i)],[.mk 167 [.arr64 5 R],.mk 167 [.arr64 5 (zg8 (zec key s t.i) L a.i)],.mk 167 [.arr64 5 L]]⟩) (fun a=>(5)-a.i) ⟨0,Nat.zero_le _⟩ [0,1,2] ?_ ?_
          ·repeat ((conv=>whnf);refine zb ?_)
           conv=>whnf
           refine zu (congrArg (fun x=>SV.agg [SV.arr64 5 x]) (show zec key s t.i=zg8 (zec key s t.i) L 0 by unfold zg8;rfl)) ?_
           repeat ((conv=>whnf);refine zb ?_)
           conv=>whnf
           exact zl (congrArg (fun x=>SV.agg [SV.arr64 5 x]) (show _=L by rw [hL];unfold zqi;rfl))
          ·intro a
           have hai:=a.hi
           have had:=zpc (zec key s t.i) L a.i
           by_cases h7:a.i<5
           ·refine za ?_
            refine ⟨⟨a.i+1,h7⟩,[0,1,2],by show (5)-(a.i+1)<(5)-a.i;omega,?_⟩
            repeat ((conv=>whnf);refine zb ?_)
            conv=>whnf
            exact zl (congrArg (fun x=>SV.agg [SV.arr64 5 x]) (show (zg8 (zec key s t.i) L a.i).set ((a.i:Int)).toNat (g64 (zg8 (zec key s t.i) L a.i) ((a.i:Int)).toNat+g64 L ((a.i:Int)).toNat)=zg8 (zec key s t.i) L (a.i+1) by rw [Int.toNat_natCast];conv=>rhs;unfold zg8))
           ·have e7:a.i=5:=by omega
            have had5:(zg8 (zec key s t.i) L 5).length=5:=by rw [zpc];exact hal
            have hT:t.i<(s.length+15)/ 16:=by omega
            have hra:zb7 (zg8 (zec key s t.i) L 5) R=zec key s (t.i+1):=by
              conv=>rhs;unfold zec
              rw [hL,hR,hn]
            rw [e7]
            refine za ?_
            refine ⟨⟨t.i+1,hT⟩,[0,1,2],by show (((s.length+15)/ 16))-(t.i+1)<(((s.length+15)/ 16))-t.i;omega,?_⟩
            repeat ((conv=>whnf);refine zb ?_)
            conv=>whnf
            refine zu (congrArg (fun x=>SV.agg [SV.arr64 5 x]) hra) ?_
            repeat ((conv=>whnf);refine zb ?_)
            conv=>whnf
            exact zl (congrArg (fun x=>SV.agg [SV.arr64 5 x]) hLw.symm)
       ·have e5:t.i=(s.length+15)/ 16:=by omega
        refine za ?_
        conv=>whnf
        refine y5 (hp':= []) [] h ?_
        repeat ((conv=>whnf);refine zb ?_)
        conv=>whnf
        exact zl (congrArg SV.str (show zqf (zec key s t.i) (List.drop 16 key)=zi5 key s by unfold zi5;rw [e5]))
   ·exact h.elim
end Go.Sym.Z

namespace Go.Sym.Z
open Go Go.Proofs.Tryz Go.Sym.Lp Go.Sym.Pol Go.Sym.Cha
set_option maxRecDepth 100000
attribute [local irreducible] xg blk zi5 fillB zcc
def ylj:List (Nat×List PStep):= [(1,[⟨0,[]⟩,⟨1,[0]⟩,⟨4,[0,1]⟩,⟨6,[0,1,4]⟩,⟨9,[0,1,4,6]⟩,⟨10,[0,1,4,6]⟩,⟨13,[0,1,4,6,9,10]⟩,⟨14,[0,1,4,6,9,10]⟩,⟨2,[4,6,9,10,13,14]⟩,⟨3,[4,6,9,10,13,14]⟩,⟨5,[6,9,10,13,14,3]⟩,⟨7,[9,10,13,14,3]⟩,⟨8,[9,10,13,14,3]⟩,⟨11,[13,14,3,8]⟩,⟨12,[13,14,3]⟩,⟨15,[3,8,12]⟩,⟨16,[3]⟩,⟨17,[]⟩,⟨18,[]⟩])]
def ykp:List (Nat×List PStep):= []
def ylr:List (Nat×List PStep):= [(2,[⟨0,[]⟩,⟨1,[]⟩,⟨2,[]⟩,⟨3,[]⟩,⟨4,[]⟩,⟨5,[]⟩,⟨6,[]⟩,⟨7,[]⟩,⟨8,[]⟩,⟨9,[]⟩,⟨10,[]⟩,⟨11,[]⟩,⟨12,[]⟩,⟨13,[]⟩,⟨14,[]⟩,⟨15,[]⟩,⟨16,[]⟩,⟨17,[]⟩,⟨18,[]⟩,⟨19,[]⟩,⟨20,[]⟩,⟨21,[]⟩,⟨22,[]⟩,⟨23,[22]⟩,⟨24,[22,23]⟩,⟨25,[22,23,24]⟩,⟨26,[22,23,24,25]⟩,⟨27,[22,23,24]⟩,⟨29,[22,23,24,25,26,27]⟩,⟨30,[22,23,24,25,26,27,29]⟩,⟨31,[22,23,24,25,26,27]⟩,⟨28,[29,30,31]⟩,⟨32,[]⟩,⟨33,[]⟩])]
def zds (key nonce aad c:List UInt8):List UInt8:=
  zi5 ((blk key nonce 0).take 32) (aad++fillB aad.length++(c++fillB c.length)++zcc aad.length++zcc c.length)
def zy2:Spec:=fun args hp K=>match args,hp with
  | [.str key,.str nonce,.str aad,.str c],[]=>Pre (key.length=32∧nonce.length=12∧aad.length≤65536∧c.length≤65536) (K (.str (zds key nonce aad c)) [])
  |_,_=>False
theorem z1v:zp prog 75 zy2:=by
  refine zm y9 (zc zsd (zc zr8 (zc z2a (zc ybc zi)))) rfl func75 rfl call75 (D:=ylj) ?_ ?_
  ·intro args hp K h
   unfold zy2 at h
   split at h
   ·exact Nat.le_of_ble_eq_true rfl
   ·exact h.elim
  ·intro args hp K h
   unfold zy2 at h
   split at h
   ·rename_i key nonce aad c
    obtain ⟨⟨hk,hn,ha,hc⟩,h⟩:=zn h
    have hbl:=zf0 key nonce (UInt32.ofNat 0)
    have hfa:=zb3 aad.length
    have hfc:=zb3 c.length
    have h8a:=zdg aad.length
    have h8c:=zdg c.length
    have hA:((aad.length:Int)).toNat=aad.length:=Int.toNat_natCast _
    have hC:((c.length:Int)).toNat=c.length:=Int.toNat_natCast _
    have hG:zds key nonce aad c=zi5 (List.take (Int.toNat 32) (blk key nonce (UInt32.ofNat 0))) (aad++fillB aad.length++(c++fillB c.length)++zcc ((aad.length:Int)).toNat++zcc ((c.length:Int)).toNat):=by unfold zds;rw [hA,hC];rfl
    rw [hG] at h
    have h8a2:(zcc ((aad.length:Int)).toNat).length=8:=zdg _
    have h8c2:(zcc ((c.length:Int)).toNat).length=8:=zdg _
    have hq1:(aad++fillB aad.length++(c++fillB c.length)).length≤140000:=by
      rw [List.length_append,List.length_append,List.length_append];omega
    have hq2:(aad++fillB aad.length++(c++fillB c.length)++zcc ((aad.length:Int)).toNat).length≤140008:=by
      rw [List.length_append];omega
    have hq3:(aad++fillB aad.length++(c++fillB c.length)++zcc ((aad.length:Int)).toNat++zcc ((c.length:Int)).toNat).length≤140016:=by
      rw [List.length_append];omega
    refine za ?_
    conv=>whnf
    exact zd [] h
   ·exact h.elim
def zlt (key nonce aad s:List UInt8):List UInt8:=
  xg key nonce 1 s++zds key nonce aad (xg key nonce 1 s)
theorem z2q (key nonce aad b:List UInt8):(zds key nonce aad b).length=16:=by
  unfold zds zi5 zqf
  exact zim _ _ _
attribute [local irreducible] zds
def zkh:Spec:=fun args hp K=>match args,hp with
  | [.str key,.str nonce,.str aad,.str s],[]=>
      if key.length=32∧nonce.length=12∧aad.length≤65536∧(s.length:Int)≤65536 then
       K (.tup [.str (zlt key nonce aad s),.int 0]) []
      else K (.tup [.str [],.int 700]) []
  |_,_=>False
theorem z40:zp prog 55 zkh:=by
  refine zm y9 (zc zrf (zc z1v zi)) rfl func55 rfl call55 (D:=ykp) ?_ ?_
  ·intro args hp K h
   unfold zkh at h
   split at h
   ·exact Nat.le_of_ble_eq_true rfl
   ·exact h.elim
  ·intro args hp K h
   unfold zkh at h
   split at h
   ·rename_i key nonce aad s
    by_cases h1:key.length=32
    ·by_cases h2:nonce.length=12
     ·by_cases h3:aad.length≤65536
      ·by_cases h4:(s.length:Int)≤65536
       ·rw [if_pos ⟨h1,h2,h3,h4⟩] at h
        have hsl:s.length≤65536:=by omega
        have hst:=zhc key nonce 1 s
        have hst2:(xg key nonce (UInt32.ofNat 1) s).length=s.length:=hst
        have htl:(zds key nonce aad (xg key nonce (UInt32.ofNat 1) s)).length=16:=z2q _ _ _ _
        have hpt:key.length=32∧nonce.length=12∧aad.length≤65536∧(xg key nonce (UInt32.ofNat 1) s).length≤65536:=⟨h1,h2,h3,by omega⟩
        have hG:zlt key nonce aad s=xg key nonce (UInt32.ofNat 1) s++zds key nonce aad (xg key nonce (UInt32.ofNat 1) s):=by unfold zlt;rfl
        rw [hG] at h
        refine za ?_
        conv=>whnf
        exact zd [] h
       ·rw [if_neg fun hh=>h4 hh.2.2.2] at h
        refine za ?_
        exact zd [] h
      ·rw [if_neg fun hh=>h3 hh.2.2.1] at h
       refine za ?_
       exact zd [] h
     ·rw [if_neg fun hh=>h2 hh.2.1] at h
      refine za ?_
      exact zd [] h
    ·rw [if_neg fun hh=>h1 hh.1] at h
     refine za ?_
     exact zd [] h
   ·exact h.elim
def zkp:Spec:=fun args hp K=>match args,hp with
  | [.str key,.str nonce,.str aad,.str s],[]=>Pre (s.length<9223372036854775808) <|
      if (key.length=32∧nonce.length=12∧aad.length≤65536∧(s.length:Int)-16≤65536)∧16≤s.length∧zds key nonce aad (s.take (s.length-16))=s.drop (s.length-16) then
       K (.tup [.str (xg key nonce 1 (s.take (s.length-16))),.int 0]) []
      else K (.tup [.str [],.int 700]) []
  |_,_=>False
theorem z6o:zp prog 98 zkp:=by
  refine zm y9 (zc zrf (zc z1v zi)) rfl func98 rfl call98 (D:=ylr) ?_ ?_
  ·intro args hp K h
   unfold zkp at h
   split at h
   ·exact Nat.le_of_ble_eq_true rfl
   ·exact h.elim
  ·intro args hp K h
   unfold zkp at h
   split at h
   ·rename_i key nonce aad s
    obtain ⟨hs63,h⟩:=zn h
    by_cases h1:key.length=32
    ·by_cases h2:nonce.length=12
     ·by_cases h3:aad.length≤65536
      ·by_cases h5:16≤s.length
       ·by_cases h4:(s.length:Int)-16≤65536
        ·have hn:((s.length:Int)-16).toNat=s.length-16:=by omega
         have htl:(List.take ((s.length:Int)-16).toNat s).length=s.length-16:=by rw [hn,List.length_take];omega
         by_cases hq:zds key nonce aad (s.take (s.length-16))=s.drop (s.length-16)
         ·rw [if_pos ⟨⟨h1,h2,h3,h4⟩,h5,hq⟩] at h
          have hdq:decide (zds key nonce aad (List.take ((s.length:Int)-16).toNat s)=List.drop ((s.length:Int)-16).toNat s)=true:=decide_eq_true (by rw [hn];exact hq)
          have hG:xg key nonce 1 (s.take (s.length-16))=xg key nonce (UInt32.ofNat 1) (List.take ((s.length:Int)-16).toNat s):=by rw [hn];rfl
          rw [hG] at h
          repeat ((conv=>whnf);first|refine zq ?_|refine zg ?_|refine zf ?_|refine zb ?_|refine zr (by first|exact hdq|(rw [hdq];rfl)) ?_|refine zj (by first|exact hdq|(rw [hdq];rfl)) ?_|refine zk (by first|exact hdq|(rw [hdq];rfl)) ?_)
          conv=>whnf
          exact zd [] h
         ·rw [if_neg fun hh=>hq hh.2.2] at h
          have hdq:decide (zds key nonce aad (List.take ((s.length:Int)-16).toNat s)=List.drop ((s.length:Int)-16).toNat s)=false:=decide_eq_false (by rw [hn];exact hq)
          repeat ((conv=>whnf);first|refine zq ?_|refine zg ?_|refine zf ?_|refine zb ?_|refine zr (by first|exact hdq|(rw [hdq];rfl)) ?_|refine zj (by first|exact hdq|(rw [hdq];rfl)) ?_|refine zk (by first|exact hdq|(rw [hdq];rfl)) ?_)
          conv=>whnf
          exact zd [] h
        ·rw [if_neg fun hh=>h4 hh.1.2.2.2] at h
         refine za ?_
         exact zd [] h
       ·rw [if_neg fun hh=>h5 hh.2.1] at h
        refine za ?_
        exact zd [] h
      ·rw [if_neg fun hh=>h3 hh.1.2.2.1] at h
       refine za ?_
       exact zd [] h
     ·rw [if_neg fun hh=>h2 hh.1.2.1] at h
      refine za ?_
      exact zd [] h
    ·rw [if_neg fun hh=>h1 hh.1.1] at h
     refine za ?_
     exact zd [] h
   ·exact h.elim
end Go.Sym.Z
