/-
  Contracts of functions of the program, each said of symbolic values, and plain laws; no condition beyond each statement's own.
-/
import Derived.Test.YtmmpgjcpielefaaGreatGLStreamActs25
set_option linter.unusedSimpArgs false
set_option linter.unusedVariables false
namespace Go.Sym.Z
open Go Go.Proofs.Tryz Go.Sym.Lp Go.Sym.Pol Go.Sym.Cha
set_option maxRecDepth 100000
attribute [local irreducible] yx xt blk xu rcd zcj
def yi2:List (Nat×List PStep):= []
def yke:List (Nat×List PStep):= [(7,[⟨0,[]⟩,⟨1,[0]⟩,⟨2,[0]⟩,⟨3,[]⟩,⟨4,[0,1,2,3]⟩,⟨5,[0,1,2,3]⟩,⟨6,[0,1,2,3]⟩,⟨7,[0,1,2,3]⟩,⟨8,[]⟩,⟨9,[0,1,2,3,4,5,6,7,8]⟩,⟨10,[0,1,2,3,4,5,6,7,8]⟩,⟨11,[]⟩,⟨12,[]⟩,⟨13,[]⟩]),(8,[⟨0,[]⟩,⟨1,[]⟩,⟨2,[0,1]⟩,⟨3,[0,1]⟩,⟨4,[0,1]⟩,⟨5,[0,1]⟩,⟨6,[0,1,2,3,4,5]⟩,⟨7,[0,1,2,3,4,5]⟩,⟨8,[0,1,2,3,4,5]⟩,⟨9,[0,1]⟩,⟨10,[]⟩,⟨11,[]⟩]),(18,[⟨0,[]⟩,⟨1,[]⟩,⟨2,[0,1]⟩,⟨3,[0,1]⟩,⟨4,[0,1]⟩,⟨5,[0,1]⟩,⟨6,[0,1,2,3,4,5]⟩,⟨7,[0,1,2,3,4,5]⟩,⟨8,[0,1,2,3,4,5]⟩,⟨9,[0,1]⟩,⟨10,[]⟩,⟨11,[]⟩]),(20,[⟨0,[]⟩,⟨1,[]⟩,⟨2,[0,1]⟩,⟨3,[0,1]⟩,⟨4,[0,1]⟩,⟨5,[0,1]⟩,⟨6,[0,1,2,3,4,5]⟩,⟨7,[0,1,2,3,4,5]⟩,⟨8,[0,1,2,3,4,5]⟩,⟨9,[0,1]⟩,⟨10,[]⟩,⟨11,[]⟩]),(24,[⟨0,[]⟩,⟨1,[0]⟩,⟨2,[0]⟩,⟨3,[0]⟩,⟨4,[0,1,2,3]⟩,⟨5,[0,1,2,3]⟩,⟨6,[0,1,2,3]⟩,⟨7,[0]⟩,⟨8,[]⟩,⟨9,[]⟩]),(26,[⟨0,[]⟩,⟨1,[0]⟩,⟨2,[0]⟩,⟨3,[]⟩,⟨4,[]⟩])]
def zpc:Spec:=fun args hp K=>match args,hp with
  | [.arr64 5 x,.str s],[]=>Pre (x.length=5∧s.length=16) (K (.str (zqt x s)) [])
  |_,_=>False
set_option maxHeartbeats 8000000 in
theorem z3o:zp prog 127 zpc:=by
  refine zm xe (zd zor zi) rfl func127 rfl call127 (D:=yi2) ?_ ?_
  ·intro args hp K h
   unfold zpc at h
   split at h
   ·exact Nat.le_of_ble_eq_true rfl
   ·exact h.elim
  ·intro args hp K h
   unfold zpc at h
   split at h
   ·rename_i x s
    obtain ⟨⟨hx,hs⟩,h⟩:=zq h
    have h1:(rcd x).length=5:=by rw [zf1];exact hx
    have h2:(rcd (rcd x)).length=5:=by rw [zf1];exact h1
    obtain ⟨H,hH⟩: ∃H,H=rcd (rcd x):=⟨_,rfl⟩
    have hHl:H.length=5:=by rw [hH];exact h2
    obtain ⟨G,hG⟩: ∃G,G=H.set 0 (g64 H 0+5):=⟨_,rfl⟩
    have hGl:G.length=5:=by rw [hG,List.length_set];exact hHl
    refine za ?_
    rw [←hH]
    refine zt (Ix (5)) (fun q=>⟨[(1,.str s),(2,.ptr 0 0 0 []),(5,.ptr 1 0 0 []),(6,.u64 (zc0 G q.i).2),(7,.int q.i)],[.mk 167 [.arr64 5 H],.mk 167 [.arr64 5 (zc0 G q.i).1]]⟩) (fun q=>(5)-q.i) ⟨0,Nat.zero_le _⟩ [0,1] ?_ ?_
    ·repeat ((conv=>whnf);refine zb ?_)
     conv=>whnf
     exact zo (congrArg (fun x=>SV.agg [SV.arr64 5 x]) (show H.set 0 (g64 H 0+5)=(zc0 G 0).1 by rw [hG];rfl))
    ·intro q
     have hi:=q.hi
     have hl:=zfa G q.i
     have hI:((q.i:Int)).toNat=q.i:=Int.toNat_natCast _
     by_cases h4:q.i<5
     ·refine za ?_
      refine ⟨⟨q.i+1,h4⟩,[0,1],by show (5)-(q.i+1)<(5)-q.i;omega,?_⟩
      exact zn
     ·have e4:q.i=5:=by omega
      have hl5:=zfa G 5
      rw [e4]
      obtain ⟨X,hX⟩: ∃X,X=if UInt64.ofNat 0<(zc0 G 5).2 then (zc0 G 5).1 else H:=⟨_,rfl⟩
      have hXl:X.length=5:=by rw [hX];split<;>omega
      by_cases h6:UInt64.ofNat 0<(zc0 G 5).2
      ·rw [if_pos h6] at hX
       have d6:decide (UInt64.ofNat 0<(zc0 G 5).2)=true:=decide_eq_true h6
       repeat ((conv=>whnf);first|refine zu ?_|refine zg ?_|refine zh ?_|refine zb ?_|refine zr (by first|exact d6|(rw [d6];rfl)) ?_|refine zj (by first|exact d6|(rw [d6];rfl)) ?_|refine zk (by first|exact d6|(rw [d6];rfl)) ?_)
       conv=>whnf
       refine zt (Ix (16)) (fun u=>⟨[(1,.str s),(2,.ptr 0 0 0 []),(8,.sl 1 0 0 [] 16 16),(9,.int (rts X s u.i).2),(10,.int u.i)],[.mk 167 [.arr64 5 X],.mk 5 [.arr8 16 (rts X s u.i).1]]⟩) (fun u=>(16)-u.i) ⟨0,Nat.zero_le _⟩ [0,2] ?_ ?_
       ·repeat ((conv=>whnf);refine zb ?_)
        conv=>whnf
        exact zo (congrArg (fun x=>SV.agg [SV.arr64 5 x]) hX.symm)
       ·intro u
        have hui:=u.hi
        have hU:((u.i:Int)).toNat=u.i:=Int.toNat_natCast _
        have hrl:=zhw X s u.i
        have hrb:=ztr X s u.i
        by_cases h7:u.i<16
        ·refine za ?_
         refine zt (Ix (8)) (fun v=>⟨[(1,.str s),(2,.ptr 0 0 0 []),(8,.sl 1 0 0 [] 16 16),(9,.int (rts X s u.i).2),(10,.int u.i),(11,.int (rbv X u.i v.i)),(12,.int v.i)],[.mk 167 [.arr64 5 X],.mk 5 [.arr8 16 (rts X s u.i).1]]⟩) (fun v=>(8)-v.i) ⟨0,Nat.zero_le _⟩ [0,1] ?_ ?_
         ·exact zn
         ·intro v
          have hvi:=v.hi
          have hbv:=zlz X u.i v.i
          by_cases h8:v.i<8
          ·have hq:(8*(u.i:Int)+(v.i:Int)).tdiv 26=(((8*u.i+v.i)/ 26:Nat):Int):=by rw [Int.tdiv_eq_ediv_of_nonneg (by omega)];omega
           have hm:(8*(u.i:Int)+(v.i:Int)).tmod 26=(((8*u.i+v.i)%26:Nat):Int):=by rw [Int.tmod_eq_emod_of_nonneg (by omega)];omega
           have hpd:(26:Int)≠0∧ya ((8*(u.i:Int)+(v.i:Int)).tdiv 26):=⟨by decide,by rw [hq];unfold ya;omega⟩
           have hw:(X.getD (off (yb [] ((8*(u.i:Int)+(v.i:Int)).tdiv 26).toNat xj.sz)) 0>>>UInt64.ofNat ((8*(u.i:Int)+(v.i:Int)).tmod 26).toNat&&&UInt64.ofNat 1).toNat=zgo X (8*u.i+v.i):=by
             rw [hq,hm,Int.toNat_natCast,Int.toNat_natCast,ydn _ (by omega)];rfl
           have hbi:zgo X (8*u.i+v.i)≤1:=by unfold zgo;omega
           have hpw:(X.getD (off (yb [] ((8*(u.i:Int)+(v.i:Int)).tdiv 26).toNat xj.sz)) 0>>>UInt64.ofNat ((8*(u.i:Int)+(v.i:Int)).tmod 26).toNat&&&UInt64.ofNat 1).toNat<9223372036854775808:=by rw [hw];omega
           have hpow:2^v.i≤2^7:=Nat.pow_le_pow_right (by decide) (by omega)
           have hpow0:0<2^v.i:=Nat.pow_pos (by decide)
           have hcm:zgo X (8*u.i+v.i)*2^v.i≤1*2^7:=Nat.mul_le_mul hbi hpow
           have hec:((zgo X (8*u.i+v.i):Nat):Int)*2^v.i=((zgo X (8*u.i+v.i)*2^v.i:Nat):Int):=by rw [Int.natCast_mul,Int.natCast_pow];rfl
           have hsh:((v.i:Int)).toNat<64∧ya (((X.getD (off (yb [] ((8*(u.i:Int)+(v.i:Int)).tdiv 26).toNat xj.sz)) 0>>>UInt64.ofNat ((8*(u.i:Int)+(v.i:Int)).tmod 26).toNat&&&UInt64.ofNat 1).toNat:Int)*2^((v.i:Int)).toNat):=by
             rw [hw,Int.toNat_natCast,hec];unfold ya;omega
           have hor:zae .or (rbv X u.i v.i:Int) (((X.getD (off (yb [] ((8*(u.i:Int)+(v.i:Int)).tdiv 26).toNat xj.sz)) 0>>>UInt64.ofNat ((8*(u.i:Int)+(v.i:Int)).tmod 26).toNat&&&UInt64.ofNat 1).toNat:Int)*2^((v.i:Int)).toNat)=((rbv X u.i (v.i+1):Nat):Int):=by
             rw [hw,Int.toNat_natCast];exact Go.Sym.Ib.ibits_or_bit hbv hbi h8
           refine za ?_
           rw [hor]
           conv=>whnf
           refine ⟨⟨v.i+1,h8⟩,[0,1],by show (8)-(v.i+1)<(8)-v.i;omega,?_⟩
           exact zn
          ·have e8:v.i=8:=by omega
           have hbv8:rbv X u.i 8<256:=zlz X u.i 8
           have hU2:(s.getD ((u.i:Int)).toNat 0).toNat<256:=(s.getD _ 0).toNat_lt
           have hpf:ya (((rts X s u.i).2:Int)+(rbv X u.i 8:Int)+((s.getD ((u.i:Int)).toNat 0).toNat:Int)):=by unfold ya;omega
           have hsu:(s.getD u.i 0).toNat<256:=(s.getD u.i 0).toNat_lt
           rw [e8]
           refine za ?_
           have hcc:UInt8.ofInt (zae BinOp.and (((rts X s u.i).2:Int)+(rbv X u.i 8:Int)+((s.getD ((u.i:Int)).toNat 0).toNat:Int)) 255)=UInt8.ofNat ((rts X s u.i).2+rbv X u.i 8+(s.getD u.i 0).toNat):=by
             rw [Go.Sym.Ib.u8_255 (by omega),hU]
             apply UInt8.toNat_inj.1
             have q1:=zjg (((rts X s u.i).2:Int)+(rbv X u.i 8:Int)+((s.getD u.i 0).toNat:Int))
             rw [UInt8.toNat_ofNat']
             omega
           conv=>whnf
           refine ⟨⟨u.i+1,h7⟩,[0,1],by show (16)-(u.i+1)<(16)-u.i;omega,?_⟩
           repeat ((conv=>whnf);refine zb ?_)
           conv=>whnf
           exact zo (congrArg (fun x=>SV.agg [SV.arr8 16 x]) (show (rts X s u.i).1.set ((u.i:Int)).toNat _=(rts X s u.i).1.set u.i _ by rw [hcc];rfl))
        ·have e7:u.i=16:=by omega
         have hF:List.take 16 (List.drop (off []) (rts X s 16).1)=zqt x s:=by
           show List.take 16 (List.drop 0 _)=_
           rw [List.drop_zero,List.take_of_length_le (Nat.le_of_eq (zhw _ _ _))]
           unfold zqt zgv
           rw [←hH,←hG,if_pos h6,←hX]
         rw [e7]
         refine za ?_
         conv=>whnf
         refine yu (hp':= []) [] h ?_
         repeat ((conv=>whnf);refine zb ?_)
         conv=>whnf
         exact zo (congrArg SV.str hF)
      ·rw [if_neg h6] at hX
       have d6:decide (UInt64.ofNat 0<(zc0 G 5).2)=false:=decide_eq_false h6
       repeat ((conv=>whnf);first|refine zu ?_|refine zg ?_|refine zh ?_|refine zb ?_|refine zr (by first|exact d6|(rw [d6];rfl)) ?_|refine zj (by first|exact d6|(rw [d6];rfl)) ?_|refine zk (by first|exact d6|(rw [d6];rfl)) ?_)
       conv=>whnf
       refine zt (Ix (16)) (fun u=>⟨[(1,.str s),(2,.ptr 0 0 0 []),(8,.sl 1 0 0 [] 16 16),(9,.int (rts X s u.i).2),(10,.int u.i)],[.mk 167 [.arr64 5 X],.mk 5 [.arr8 16 (rts X s u.i).1]]⟩) (fun u=>(16)-u.i) ⟨0,Nat.zero_le _⟩ [0,2] ?_ ?_
       ·repeat ((conv=>whnf);refine zb ?_)
        conv=>whnf
        exact zo (congrArg (fun x=>SV.agg [SV.arr64 5 x]) hX.symm)
       ·intro u
        have hui:=u.hi
        have hU:((u.i:Int)).toNat=u.i:=Int.toNat_natCast _
        have hrl:=zhw X s u.i
        have hrb:=ztr X s u.i
        by_cases h7:u.i<16
        ·refine za ?_
         refine zt (Ix (8)) (fun v=>⟨[(1,.str s),(2,.ptr 0 0 0 []),(8,.sl 1 0 0 [] 16 16),(9,.int (rts X s u.i).2),(10,.int u.i),(11,.int (rbv X u.i v.i)),(12,.int v.i)],[.mk 167 [.arr64 5 X],.mk 5 [.arr8 16 (rts X s u.i).1]]⟩) (fun v=>(8)-v.i) ⟨0,Nat.zero_le _⟩ [0,1] ?_ ?_
         ·exact zn
         ·intro v
          have hvi:=v.hi
          have hbv:=zlz X u.i v.i
          by_cases h8:v.i<8
          ·have hq:(8*(u.i:Int)+(v.i:Int)).tdiv 26=(((8*u.i+v.i)/ 26:Nat):Int):=by rw [Int.tdiv_eq_ediv_of_nonneg (by omega)];omega
           have hm:(8*(u.i:Int)+(v.i:Int)).tmod 26=(((8*u.i+v.i)%26:Nat):Int):=by rw [Int.tmod_eq_emod_of_nonneg (by omega)];omega
           have hpd:(26:Int)≠0∧ya ((8*(u.i:Int)+(v.i:Int)).tdiv 26):=⟨by decide,by rw [hq];unfold ya;omega⟩
           have hw:(X.getD (off (yb [] ((8*(u.i:Int)+(v.i:Int)).tdiv 26).toNat xj.sz)) 0>>>UInt64.ofNat ((8*(u.i:Int)+(v.i:Int)).tmod 26).toNat&&&UInt64.ofNat 1).toNat=zgo X (8*u.i+v.i):=by
             rw [hq,hm,Int.toNat_natCast,Int.toNat_natCast,ydn _ (by omega)];rfl
           have hbi:zgo X (8*u.i+v.i)≤1:=by unfold zgo;omega
           have hpw:(X.getD (off (yb [] ((8*(u.i:Int)+(v.i:Int)).tdiv 26).toNat xj.sz)) 0>>>UInt64.ofNat ((8*(u.i:Int)+(v.i:Int)).tmod 26).toNat&&&UInt64.ofNat 1).toNat<9223372036854775808:=by rw [hw];omega
           have hpow:2^v.i≤2^7:=Nat.pow_le_pow_right (by decide) (by omega)
           have hpow0:0<2^v.i:=Nat.pow_pos (by decide)
           have hcm:zgo X (8*u.i+v.i)*2^v.i≤1*2^7:=Nat.mul_le_mul hbi hpow
           have hec:((zgo X (8*u.i+v.i):Nat):Int)*2^v.i=((zgo X (8*u.i+v.i)*2^v.i:Nat):Int):=by rw [Int.natCast_mul,Int.natCast_pow];rfl
           have hsh:((v.i:Int)).toNat<64∧ya (((X.getD (off (yb [] ((8*(u.i:Int)+(v.i:Int)).tdiv 26).toNat xj.sz)) 0>>>UInt64.ofNat ((8*(u.i:Int)+(v.i:Int)).tmod 26).toNat&&&UInt64.ofNat 1).toNat:Int)*2^((v.i:Int)).toNat):=by
             rw [hw,Int.toNat_natCast,hec];unfold ya;omega
           have hor:zae .or (rbv X u.i v.i:Int) (((X.getD (off (yb [] ((8*(u.i:Int)+(v.i:Int)).tdiv 26).toNat xj.sz)) 0>>>UInt64.ofNat ((8*(u.i:Int)+(v.i:Int)).tmod 26).toNat&&&UInt64.ofNat 1).toNat:Int)*2^((v.i:Int)).toNat)=((rbv X u.i (v.i+1):Nat):Int):=by
             rw [hw,Int.toNat_natCast];exact Go.Sym.Ib.ibits_or_bit hbv hbi h8
           refine za ?_
           rw [hor]
           conv=>whnf
           refine ⟨⟨v.i+1,h8⟩,[0,1],by show (8)-(v.i+1)<(8)-v.i;omega,?_⟩
           exact zn
          ·have e8:v.i=8:=by omega
           have hbv8:rbv X u.i 8<256:=zlz X u.i 8
           have hU2:(s.getD ((u.i:Int)).toNat 0).toNat<256:=(s.getD _ 0).toNat_lt
           have hpf:ya (((rts X s u.i).2:Int)+(rbv X u.i 8:Int)+((s.getD ((u.i:Int)).toNat 0).toNat:Int)):=by unfold ya;omega
           have hsu:(s.getD u.i 0).toNat<256:=(s.getD u.i 0).toNat_lt
           rw [e8]
           refine za ?_
           have hcc:UInt8.ofInt (zae BinOp.and (((rts X s u.i).2:Int)+(rbv X u.i 8:Int)+((s.getD ((u.i:Int)).toNat 0).toNat:Int)) 255)=UInt8.ofNat ((rts X s u.i).2+rbv X u.i 8+(s.getD u.i 0).toNat):=by
             rw [Go.Sym.Ib.u8_255 (by omega),hU]
             apply UInt8.toNat_inj.1
             have q1:=zjg (((rts X s u.i).2:Int)+(rbv X u.i 8:Int)+((s.getD u.i 0).toNat:Int))
             rw [UInt8.toNat_ofNat']
             omega
           conv=>whnf
           refine ⟨⟨u.i+1,h7⟩,[0,1],by show (16)-(u.i+1)<(16)-u.i;omega,?_⟩
           repeat ((conv=>whnf);refine zb ?_)
           conv=>whnf
           exact zo (congrArg (fun x=>SV.agg [SV.arr8 16 x]) (show (rts X s u.i).1.set ((u.i:Int)).toNat _=(rts X s u.i).1.set u.i _ by rw [hcc];rfl))
        ·have e7:u.i=16:=by omega
         have hF:List.take 16 (List.drop (off []) (rts X s 16).1)=zqt x s:=by
           show List.take 16 (List.drop 0 _)=_
           rw [List.drop_zero,List.take_of_length_le (Nat.le_of_eq (zhw _ _ _))]
           unfold zqt zgv
           rw [←hH,←hG,if_neg h6,←hX]
         rw [e7]
         refine za ?_
         conv=>whnf
         refine yu (hp':= []) [] h ?_
         repeat ((conv=>whnf);refine zb ?_)
         conv=>whnf
         exact zo (congrArg SV.str hF)
   ·exact h.elim
end Go.Sym.Z

namespace Go.Sym.Pol
def xz (P:Nat→Bool):Nat→List UInt64
  |0=> [0,0,0,0,0]
  |i+1=>if P i=true then (xz P i).set (i/ 26) (g64 (xz P i) (i/ 26)|||UInt64.ofNat 1<<<UInt64.ofNat (i%26)) else xz P i
theorem zb5 (P:Nat→Bool): ∀i,(xz P i).length=5
  |0=>rfl
  |i+1=>by simp only [xz];split<;>simp [zb5 P i]
theorem zlc {P:Nat→Bool} {i:Nat} (h:P i=true):xz P (i+1)=(xz P i).set (i/ 26) (g64 (xz P i) (i/ 26)|||UInt64.ofNat 1<<<UInt64.ofNat (i%26)):=by simp only [xz];rw [if_pos h]
theorem zqk {P:Nat→Bool} {i:Nat} (h:P i=false):xz P (i+1)=xz P i:=by simp only [xz];rw [if_neg (by rw [h];decide)]
def zwp:List UInt8:= [255,255,255,15,252,255,255,15,252,255,255,15,252,255,255,15]
def zan (key:List UInt8) (i:Nat):Bool:=decide ((key.getD (i/ 8) 0&&&zwp.getD (i/ 8) 0)>>>UInt8.ofNat (i%8)&&&UInt8.ofNat 1=UInt8.ofNat 1)
def zc2 (s:List UInt8) (at' i:Nat):Bool:=decide (s.getD (at'+i/ 8) 0>>>UInt8.ofNat (i%8)&&&UInt8.ofNat 1=UInt8.ofNat 1)
def zqw (s:List UInt8) (at' n:Nat):List UInt64:=
  (xz (zc2 s at') (8*n)).set (8*n/ 26) (g64 (xz (zc2 s at') (8*n)) (8*n/ 26)|||UInt64.ofNat 1<<<UInt64.ofNat (8*n%26))
theorem zgu (s:List UInt8) (at' n:Nat):(zqw s at' n).length=5:=by unfold zqw;rw [List.length_set];exact zb5 _ _
def zg4 (x y:List UInt64):Nat→List UInt64
  |0=>x
  |i+1=>(zg4 x y i).set i (g64 (zg4 x y i) i+g64 y i)
theorem zok (x y:List UInt64): ∀i,(zg4 x y i).length=x.length
  |0=>rfl
  |i+1=>by simp only [zg4,List.length_set];exact zok x y i
def zd3 (key s:List UInt8):Nat→List UInt64
  |0=> [0,0,0,0,0]
  |t+1=>zcj (zg4 (zd3 key s t) (zqw s (16*t) (min 16 (s.length-16*t))) 5) (xz (zan key) 128)
theorem zp5 (key s:List UInt8): ∀t,(zd3 key s t).length=5
  |0=>rfl
  |_+1=>zxk _ _
def zii (key s:List UInt8):List UInt8:=zqt (zd3 key s ((s.length+15)/ 16)) (key.drop 16)
end Go.Sym.Pol
namespace Go.Sym.Pol
def yfo (s:List UInt8):Nat→List UInt64
  |0=> [0,0,0,0,0]
  |t+1=>zqw s (16*t) (min 16 (s.length-16*t))
theorem z5b (s:List UInt8): ∀t,(yfo s t).length=5
  |0=>rfl
  |_+1=>zgu _ _ _
end Go.Sym.Pol

namespace Go.Sym.Z
open Go Go.Proofs.Tryz Go.Sym.Lp Go.Sym.Pol Go.Sym.Cha
set_option maxRecDepth 100000
attribute [local irreducible] yx xt blk xu rcd zcj zqt xz zd3 zg4
def zzd:Spec:=fun args hp K=>match args,hp with
  | [.str key,.str s],[]=>Pre (key.length=32∧s.length≤1000000) (K (.str (zii key s)) [])
  |_,_=>False
set_option maxHeartbeats 8000000 in
theorem ybm:zp prog 103 zzd:=by
  refine zm xe (zd zxv (zd z3o zi)) rfl func103 rfl call103 (D:=yke) ?_ ?_
  ·intro args hp K h
   unfold zzd at h
   split at h
   ·exact Nat.le_of_ble_eq_true rfl
   ·exact h.elim
  ·intro args hp K h
   unfold zzd at h
   split at h
   ·rename_i key s
    obtain ⟨⟨hk,hs⟩,h⟩:=zq h
    have hml:zwp.length=16:=rfl
    refine za ?_
    refine zt (Ix (128)) (fun q=>⟨[(0,.str key),(1,.str s),(5,.ptr 0 0 0 []),(6,.ptr 1 0 0 []),(7,.ptr 2 0 0 []),(8,.ptr 3 0 0 []),(9,.int q.i)],[.mk 167 [.arr64 5 (xz (zan key) q.i)],.mk 167 [.arr64 5 [0,0,0,0,0]],.mk 167 [.arr64 5 [0,0,0,0,0]],.mk 168 [.arr8 16 zwp]]⟩) (fun q=>(128)-q.i) ⟨0,Nat.zero_le _⟩ [0,1,2,3] ?_ ?_
    ·repeat ((conv=>whnf);refine zb ?_)
     conv=>whnf
     exact zo (congrArg (fun x=>SV.agg [SV.arr64 5 x]) (show [0,0,0,0,0]=xz (zan key) 0 by unfold xz;rfl))
    ·intro q
     have hi:=q.hi
     have hl:=zb5 (zan key) q.i
     by_cases h4:q.i<128
     ·have hm8:(q.i:Int).tmod 8=((q.i%8:Nat):Int):=by rw [Int.tmod_eq_emod_of_nonneg (by omega)];omega
      have hd8:(q.i:Int).tdiv 8=((q.i/ 8:Nat):Int):=by rw [Int.tdiv_eq_ediv_of_nonneg (by omega)];omega
      have hm26:(q.i:Int).tmod 26=((q.i%26:Nat):Int):=by rw [Int.tmod_eq_emod_of_nonneg (by omega)];omega
      have hd26:(q.i:Int).tdiv 26=((q.i/ 26:Nat):Int):=by rw [Int.tdiv_eq_ediv_of_nonneg (by omega)];omega
      have hp8:(8:Int)≠0∧ya ((q.i:Int).tdiv 8):=⟨by decide,by rw [hd8];unfold ya;omega⟩
      have hp26:(26:Int)≠0∧ya ((q.i:Int).tdiv 26):=⟨by decide,by rw [hd26];unfold ya;omega⟩
      have hcd:decide ((key.getD ((q.i:Int).tdiv 8).toNat 0&&&zwp.getD (off (yb [] ((q.i:Int).tdiv 8).toNat ty5.sz)) 0)>>>UInt8.ofNat ((q.i:Int).tmod 8).toNat&&&UInt8.ofNat 1=UInt8.ofNat 1)=zan key q.i:=by
        rw [hd8,hm8,Int.toNat_natCast,Int.toNat_natCast];rfl
      have hI:((q.i:Int).tdiv 26).toNat=q.i/ 26:=by omega
      by_cases hb:zan key q.i=true
      ·rw [hb] at hcd
       have hn:=zlc hb
       repeat ((conv=>whnf);first|refine zu ?_|refine zg ?_|refine zh ?_|refine zb ?_|refine zr (by first|exact hcd|(rw [hcd];rfl)) ?_|refine zj (by first|exact hcd|(rw [hcd];rfl)) ?_|refine zk (by first|exact hcd|(rw [hcd];rfl)) ?_)
       conv=>whnf
       rw [hm26,Int.toNat_natCast,hI]
       conv=>whnf
       refine ⟨⟨q.i+1,h4⟩,[0,1,2,3],by show (128)-(q.i+1)<(128)-q.i;omega,?_⟩
       repeat ((conv=>whnf);refine zb ?_)
       conv=>whnf
       exact zo (congrArg (fun x=>SV.agg [SV.arr64 5 x]) hn.symm)
      ·have hb2:zan key q.i=false:=by cases hh:zan key q.i with|true=>exact absurd hh hb|false=>rfl
       rw [hb2] at hcd
       have hn:=zqk hb2
       repeat ((conv=>whnf);first|refine zu ?_|refine zg ?_|refine zh ?_|refine zb ?_|refine zr (by first|exact hcd|(rw [hcd];rfl)) ?_|refine zj (by first|exact hcd|(rw [hcd];rfl)) ?_|refine zk (by first|exact hcd|(rw [hcd];rfl)) ?_)
       conv=>whnf
       refine ⟨⟨q.i+1,h4⟩,[0,1,2,3],by show (128)-(q.i+1)<(128)-q.i;omega,?_⟩
       repeat ((conv=>whnf);refine zb ?_)
       conv=>whnf
       exact zo (congrArg (fun x=>SV.agg [SV.arr64 5 x]) hn.symm)
     ·have e4:q.i=128:=by omega
      rw [e4]
      obtain ⟨R,hR⟩: ∃R,R=xz (zan key) 128:=⟨_,rfl⟩
      have hRl:R.length=5:=by rw [hR];exact zb5 _ _
      rw [←hR]
      refine za ?_
      refine zt (Ix (((s.length+15)/ 16))) (fun t=>⟨[(0,.str key),(1,.str s),(5,.ptr 0 0 0 []),(6,.ptr 1 0 0 []),(7,.ptr 2 0 0 []),(10,.int (16*(t.i:Int)))],[.mk 167 [.arr64 5 R],.mk 167 [.arr64 5 (zd3 key s t.i)],.mk 167 [.arr64 5 (yfo s t.i)]]⟩) (fun t=>(((s.length+15)/ 16))-t.i) ⟨0,Nat.zero_le _⟩ [0,1,2] ?_ ?_
      ·repeat ((conv=>whnf);refine zb ?_)
       conv=>whnf
       exact zo (congrArg (fun x=>SV.agg [SV.arr64 5 x]) (show [0,0,0,0,0]=zd3 key s 0 by unfold zd3;rfl))
      ·intro t
       have hti:=t.hi
       have hal:=zp5 key s t.i
       have hwl:=z5b s t.i
       by_cases h5:16*t.i<s.length
       ·obtain ⟨n,hn⟩: ∃n,n=min 16 (s.length-16*t.i):=⟨_,rfl⟩
        have hn0:0<n:=by omega
        have hn16:n≤16:=by omega
        have hns:16*t.i+n≤s.length:=by omega
        have hmin:min (16*(t.i:Int)+16) (s.length:Int)=((16*t.i+n:Nat):Int):=by omega
        refine za ?_
        rw [hmin]
        refine zt (Ix ((8*n))) (fun b=>⟨[(0,.str key),(1,.str s),(5,.ptr 0 0 0 []),(6,.ptr 1 0 0 []),(7,.ptr 2 0 0 []),(10,.int (16*(t.i:Int))),(11,.int ((16*t.i+n:Nat):Int)),(12,.int b.i)],[.mk 167 [.arr64 5 R],.mk 167 [.arr64 5 (zd3 key s t.i)],.mk 167 [.arr64 5 (xz (zc2 s (16*t.i)) b.i)]]⟩) (fun b=>((8*n))-b.i) ⟨0,Nat.zero_le _⟩ [0,1,2] ?_ ?_
        ·repeat ((conv=>whnf);refine zb ?_)
         conv=>whnf
         exact zo (congrArg (fun x=>SV.agg [SV.arr64 5 x]) (show [0,0,0,0,0]=xz (zc2 s (16*t.i)) 0 by unfold xz;rfl))
        ·intro b
         have hbi:=b.hi
         have hbl:=zb5 (zc2 s (16*t.i)) b.i
         by_cases h6:b.i<8*n
         ·have hm8:(b.i:Int).tmod 8=((b.i%8:Nat):Int):=by rw [Int.tmod_eq_emod_of_nonneg (by omega)];omega
          have hd8:(b.i:Int).tdiv 8=((b.i/ 8:Nat):Int):=by rw [Int.tdiv_eq_ediv_of_nonneg (by omega)];omega
          have hm26:(b.i:Int).tmod 26=((b.i%26:Nat):Int):=by rw [Int.tmod_eq_emod_of_nonneg (by omega)];omega
          have hd26:(b.i:Int).tdiv 26=((b.i/ 26:Nat):Int):=by rw [Int.tdiv_eq_ediv_of_nonneg (by omega)];omega
          have hp8:(8:Int)≠0∧ya ((b.i:Int).tdiv 8):=⟨by decide,by rw [hd8];unfold ya;omega⟩
          have hp26:(26:Int)≠0∧ya ((b.i:Int).tdiv 26):=⟨by decide,by rw [hd26];unfold ya;omega⟩
          have hI:((b.i:Int).tdiv 26).toNat=b.i/ 26:=by omega
          have hA:(16*(t.i:Int)+(b.i:Int).tdiv 8).toNat=16*t.i+b.i/ 8:=by omega
          have hcd:decide (s.getD (16*(t.i:Int)+(b.i:Int).tdiv 8).toNat 0>>>UInt8.ofNat ((b.i:Int).tmod 8).toNat&&&UInt8.ofNat 1=UInt8.ofNat 1)=zc2 s (16*t.i) b.i:=by
            rw [hA,hm8,Int.toNat_natCast];rfl
          by_cases hb:zc2 s (16*t.i) b.i=true
          ·rw [hb] at hcd
           have hnx:=zlc hb
           repeat ((conv=>whnf);first|refine zu ?_|refine zg ?_|refine zh ?_|refine zb ?_|refine zr (by first|exact hcd|(rw [hcd];rfl)) ?_|refine zj (by first|exact hcd|(rw [hcd];rfl)) ?_|refine zk (by first|exact hcd|(rw [hcd];rfl)) ?_)
           conv=>whnf
           rw [hm26,Int.toNat_natCast,hI]
           conv=>whnf
           refine ⟨⟨b.i+1,h6⟩,[0,1,2],by show ((8*n))-(b.i+1)<((8*n))-b.i;omega,?_⟩
           repeat ((conv=>whnf);refine zb ?_)
           conv=>whnf
           exact zo (congrArg (fun x=>SV.agg [SV.arr64 5 x]) hnx.symm)
          ·have hb2:zc2 s (16*t.i) b.i=false:=by cases hh:zc2 s (16*t.i) b.i with|true=>exact absurd hh hb|false=>rfl
           rw [hb2] at hcd
           have hnx:=zqk hb2
           repeat ((conv=>whnf);first|refine zu ?_|refine zg ?_|refine zh ?_|refine zb ?_|refine zr (by first|exact hcd|(rw [hcd];rfl)) ?_|refine zj (by first|exact hcd|(rw [hcd];rfl)) ?_|refine zk (by first|exact hcd|(rw [hcd];rfl)) ?_)
           conv=>whnf
           refine ⟨⟨b.i+1,h6⟩,[0,1,2],by show ((8*n))-(b.i+1)<((8*n))-b.i;omega,?_⟩
           repeat ((conv=>whnf);refine zb ?_)
           conv=>whnf
           exact zo (congrArg (fun x=>SV.agg [SV.arr64 5 x]) hnx.symm)
         ·have e6:b.i=8*n:=by omega
          have hbl8:=zb5 (zc2 s (16*t.i)) (8*n)
          have hJ:(8*(((16*t.i+n:Nat):Int)-16*(t.i:Int)))=((8*n:Nat):Int):=by omega
          have hm26:(8*(((16*t.i+n:Nat):Int)-16*(t.i:Int))).tmod 26=((8*n%26:Nat):Int):=by rw [hJ,Int.tmod_eq_emod_of_nonneg (by omega)];omega
          have hd26:(8*(((16*t.i+n:Nat):Int)-16*(t.i:Int))).tdiv 26=((8*n/ 26:Nat):Int):=by rw [hJ,Int.tdiv_eq_ediv_of_nonneg (by omega)];omega
          have hp26:(26:Int)≠0∧ya ((8*(((16*t.i+n:Nat):Int)-16*(t.i:Int))).tdiv 26):=⟨by decide,by rw [hd26];unfold ya;omega⟩
          have hI:((8*(((16*t.i+n:Nat):Int)-16*(t.i:Int))).tdiv 26).toNat=8*n/ 26:=by omega
          obtain ⟨L,hL⟩: ∃L,L=zqw s (16*t.i) n:=⟨_,rfl⟩
          have hLl:L.length=5:=by rw [hL];exact zgu _ _ _
          have hLw:yfo s (t.i+1)=L:=by rw [hL,hn];rfl
          rw [e6]
          refine za ?_
          rw [hm26,Int.toNat_natCast,hI]
          refine zt (Ix (5)) (fun a=>⟨[(0,.str key),(1,.str s),(5,.ptr 0 0 0 []),(6,.ptr 1 0 0 []),(7,.ptr 2 0 0 []),(10,.int (16*(t.i:Int))),(14,.int a.i)],[.mk 167 [.arr64 5 R],.mk 167 [.arr64 5 (zg4 (zd3 key s t.i) L a.i)],.mk 167 [.arr64 5 L]]⟩) (fun a=>(5)-a.i) ⟨0,Nat.zero_le _⟩ [0,1,2] ?_ ?_
          ·repeat ((conv=>whnf);refine zb ?_)
           conv=>whnf
           refine zv (congrArg (fun x=>SV.agg [SV.arr64 5 x]) (show zd3 key s t.i=zg4 (zd3 key s t.i) L 0 by unfold zg4;rfl)) ?_
           repeat ((conv=>whnf);refine zb ?_)
           conv=>whnf
           exact zo (congrArg (fun x=>SV.agg [SV.arr64 5 x]) (show _=L by rw [hL];unfold zqw;rfl))
          ·intro a
           have hai:=a.hi
           have had:=zok (zd3 key s t.i) L a.i
           by_cases h7:a.i<5
           ·refine za ?_
            refine ⟨⟨a.i+1,h7⟩,[0,1,2],by show (5)-(a.i+1)<(5)-a.i;omega,?_⟩
            repeat ((conv=>whnf);refine zb ?_)
            conv=>whnf
            exact zo (congrArg (fun x=>SV.agg [SV.arr64 5 x]) (show (zg4 (zd3 key s t.i) L a.i).set ((a.i:Int)).toNat (g64 (zg4 (zd3 key s t.i) L a.i) ((a.i:Int)).toNat+g64 L ((a.i:Int)).toNat)=zg4 (zd3 key s t.i) L (a.i+1) by rw [Int.toNat_natCast];conv=>rhs;unfold zg4))
           ·have e7:a.i=5:=by omega
            have had5:(zg4 (zd3 key s t.i) L 5).length=5:=by rw [zok];exact hal
            have hT:t.i<(s.length+15)/ 16:=by omega
            have hra:zcj (zg4 (zd3 key s t.i) L 5) R=zd3 key s (t.i+1):=by
              conv=>rhs;unfold zd3
              rw [hL,hR,hn]
            rw [e7]
            refine za ?_
            refine ⟨⟨t.i+1,hT⟩,[0,1,2],by show (((s.length+15)/ 16))-(t.i+1)<(((s.length+15)/ 16))-t.i;omega,?_⟩
            repeat ((conv=>whnf);refine zb ?_)
            conv=>whnf
            refine zv (congrArg (fun x=>SV.agg [SV.arr64 5 x]) hra) ?_
            repeat ((conv=>whnf);refine zb ?_)
            conv=>whnf
            exact zo (congrArg (fun x=>SV.agg [SV.arr64 5 x]) hLw.symm)
       ·have e5:t.i=(s.length+15)/ 16:=by omega
        refine za ?_
        conv=>whnf
        refine yu (hp':= []) [] h ?_
        repeat ((conv=>whnf);refine zb ?_)
        conv=>whnf
        exact zo (congrArg SV.str (show zqt (zd3 key s t.i) (List.drop 16 key)=zii key s by unfold zii;rw [e5]))
   ·exact h.elim
end Go.Sym.Z

namespace Go.Sym.Z
open Go Go.Proofs.Tryz Go.Sym.Lp Go.Sym.Pol Go.Sym.Cha
set_option maxRecDepth 100000
attribute [local irreducible] xt blk zii fillB zcn
def ylc:List (Nat×List PStep):= [(1,[⟨0,[]⟩,⟨1,[0]⟩,⟨4,[0,1]⟩,⟨6,[0,1,4]⟩,⟨9,[0,1,4,6]⟩,⟨10,[0,1,4,6]⟩,⟨13,[0,1,4,6,9,10]⟩,⟨14,[0,1,4,6,9,10]⟩,⟨2,[4,6,9,10,13,14]⟩,⟨3,[4,6,9,10,13,14]⟩,⟨5,[6,9,10,13,14,3]⟩,⟨7,[9,10,13,14,3]⟩,⟨8,[9,10,13,14,3]⟩,⟨11,[13,14,3,8]⟩,⟨12,[13,14,3]⟩,⟨15,[3,8,12]⟩,⟨16,[3]⟩,⟨17,[]⟩,⟨18,[]⟩])]
def yls:List (Nat×List PStep):= []
def yky:List (Nat×List PStep):= [(2,[⟨0,[]⟩,⟨1,[]⟩,⟨2,[]⟩,⟨3,[]⟩,⟨4,[]⟩,⟨5,[]⟩,⟨6,[]⟩,⟨7,[]⟩,⟨8,[]⟩,⟨9,[]⟩,⟨10,[]⟩,⟨11,[]⟩,⟨12,[]⟩,⟨13,[]⟩,⟨14,[]⟩,⟨15,[]⟩,⟨16,[]⟩,⟨17,[]⟩,⟨18,[]⟩,⟨19,[]⟩,⟨20,[]⟩,⟨21,[]⟩,⟨22,[]⟩,⟨23,[22]⟩,⟨24,[22,23]⟩,⟨25,[22,23,24]⟩,⟨26,[22,23,24,25]⟩,⟨27,[22,23,24]⟩,⟨29,[22,23,24,25,26,27]⟩,⟨30,[22,23,24,25,26,27,29]⟩,⟨31,[22,23,24,25,26,27]⟩,⟨28,[29,30,31]⟩,⟨32,[]⟩,⟨33,[]⟩])]
def zdq (key nonce aad c:List UInt8):List UInt8:=
  zii ((blk key nonce 0).take 32) (aad++fillB aad.length++(c++fillB c.length)++zcn aad.length++zcn c.length)
def zx8:Spec:=fun args hp K=>match args,hp with
  | [.str key,.str nonce,.str aad,.str c],[]=>Pre (key.length=32∧nonce.length=12∧aad.length≤65536∧c.length≤65536) (K (.str (zdq key nonce aad c)) [])
  |_,_=>False
theorem z0q:zp prog 75 zx8:=by
  refine zm xe (zd zsg (zd zry (zd z3d (zd ybm zi)))) rfl func75 rfl call75 (D:=ylc) ?_ ?_
  ·intro args hp K h
   unfold zx8 at h
   split at h
   ·exact Nat.le_of_ble_eq_true rfl
   ·exact h.elim
  ·intro args hp K h
   unfold zx8 at h
   split at h
   ·rename_i key nonce aad c
    obtain ⟨⟨hk,hn,ha,hc⟩,h⟩:=zq h
    have hbl:=zfq key nonce (UInt32.ofNat 0)
    have hfa:=zcc aad.length
    have hfc:=zcc c.length
    have h8a:=zdh aad.length
    have h8c:=zdh c.length
    have hA:((aad.length:Int)).toNat=aad.length:=Int.toNat_natCast _
    have hC:((c.length:Int)).toNat=c.length:=Int.toNat_natCast _
    have hG:zdq key nonce aad c=zii (List.take (Int.toNat 32) (blk key nonce (UInt32.ofNat 0))) (aad++fillB aad.length++(c++fillB c.length)++zcn ((aad.length:Int)).toNat++zcn ((c.length:Int)).toNat):=by unfold zdq;rw [hA,hC];rfl
    rw [hG] at h
    have h8a2:(zcn ((aad.length:Int)).toNat).length=8:=zdh _
    have h8c2:(zcn ((c.length:Int)).toNat).length=8:=zdh _
    have hq1:(aad++fillB aad.length++(c++fillB c.length)).length≤140000:=by
      rw [List.length_append,List.length_append,List.length_append];omega
    have hq2:(aad++fillB aad.length++(c++fillB c.length)++zcn ((aad.length:Int)).toNat).length≤140008:=by
      rw [List.length_append];omega
    have hq3:(aad++fillB aad.length++(c++fillB c.length)++zcn ((aad.length:Int)).toNat++zcn ((c.length:Int)).toNat).length≤140016:=by
      rw [List.length_append];omega
    refine za ?_
    conv=>whnf
    exact zf [] h
   ·exact h.elim
def zlq (key nonce aad s:List UInt8):List UInt8:=
  xt key nonce 1 s++zdq key nonce aad (xt key nonce 1 s)
theorem z3u (key nonce aad b:List UInt8):(zdq key nonce aad b).length=16:=by
  unfold zdq zii zqt
  exact zhw _ _ _
attribute [local irreducible] zdq
def zjv:Spec:=fun args hp K=>match args,hp with
  | [.str key,.str nonce,.str aad,.str s],[]=>
      if key.length=32∧nonce.length=12∧aad.length≤65536∧(s.length:Int)≤65536 then
       K (.tup [.str (zlq key nonce aad s),.int 0]) []
      else K (.tup [.str [],.int 700]) []
  |_,_=>False
theorem z75:zp prog 55 zjv:=by
  refine zm xe (zd zr7 (zd z0q zi)) rfl func55 rfl call55 (D:=yls) ?_ ?_
  ·intro args hp K h
   unfold zjv at h
   split at h
   ·exact Nat.le_of_ble_eq_true rfl
   ·exact h.elim
  ·intro args hp K h
   unfold zjv at h
   split at h
   ·rename_i key nonce aad s
    by_cases h1:key.length=32
    ·by_cases h2:nonce.length=12
     ·by_cases h3:aad.length≤65536
      ·by_cases h4:(s.length:Int)≤65536
       ·rw [if_pos ⟨h1,h2,h3,h4⟩] at h
        have hsl:s.length≤65536:=by omega
        have hst:=zjo key nonce 1 s
        have hst2:(xt key nonce (UInt32.ofNat 1) s).length=s.length:=hst
        have htl:(zdq key nonce aad (xt key nonce (UInt32.ofNat 1) s)).length=16:=z3u _ _ _ _
        have hpt:key.length=32∧nonce.length=12∧aad.length≤65536∧(xt key nonce (UInt32.ofNat 1) s).length≤65536:=⟨h1,h2,h3,by omega⟩
        have hG:zlq key nonce aad s=xt key nonce (UInt32.ofNat 1) s++zdq key nonce aad (xt key nonce (UInt32.ofNat 1) s):=by unfold zlq;rfl
        rw [hG] at h
        refine za ?_
        conv=>whnf
        exact zf [] h
       ·rw [if_neg fun hh=>h4 hh.2.2.2] at h
        refine za ?_
        exact zf [] h
      ·rw [if_neg fun hh=>h3 hh.2.2.1] at h
       refine za ?_
       exact zf [] h
     ·rw [if_neg fun hh=>h2 hh.2.1] at h
      refine za ?_
      exact zf [] h
    ·rw [if_neg fun hh=>h1 hh.1] at h
     refine za ?_
     exact zf [] h
   ·exact h.elim
def zku:Spec:=fun args hp K=>match args,hp with
  | [.str key,.str nonce,.str aad,.str s],[]=>Pre (s.length<9223372036854775808) <|
      if (key.length=32∧nonce.length=12∧aad.length≤65536∧(s.length:Int)-16≤65536)∧16≤s.length∧zdq key nonce aad (s.take (s.length-16))=s.drop (s.length-16) then
       K (.tup [.str (xt key nonce 1 (s.take (s.length-16))),.int 0]) []
      else K (.tup [.str [],.int 700]) []
  |_,_=>False
theorem z98:zp prog 98 zku:=by
  refine zm xe (zd zr7 (zd z0q zi)) rfl func98 rfl call98 (D:=yky) ?_ ?_
  ·intro args hp K h
   unfold zku at h
   split at h
   ·exact Nat.le_of_ble_eq_true rfl
   ·exact h.elim
  ·intro args hp K h
   unfold zku at h
   split at h
   ·rename_i key nonce aad s
    obtain ⟨hs63,h⟩:=zq h
    by_cases h1:key.length=32
    ·by_cases h2:nonce.length=12
     ·by_cases h3:aad.length≤65536
      ·by_cases h5:16≤s.length
       ·by_cases h4:(s.length:Int)-16≤65536
        ·have hn:((s.length:Int)-16).toNat=s.length-16:=by omega
         have htl:(List.take ((s.length:Int)-16).toNat s).length=s.length-16:=by rw [hn,List.length_take];omega
         by_cases hq:zdq key nonce aad (s.take (s.length-16))=s.drop (s.length-16)
         ·rw [if_pos ⟨⟨h1,h2,h3,h4⟩,h5,hq⟩] at h
          have hdq:decide (zdq key nonce aad (List.take ((s.length:Int)-16).toNat s)=List.drop ((s.length:Int)-16).toNat s)=true:=decide_eq_true (by rw [hn];exact hq)
          have hG:xt key nonce 1 (s.take (s.length-16))=xt key nonce (UInt32.ofNat 1) (List.take ((s.length:Int)-16).toNat s):=by rw [hn];rfl
          rw [hG] at h
          repeat ((conv=>whnf);first|refine zu ?_|refine zg ?_|refine zh ?_|refine zb ?_|refine zr (by first|exact hdq|(rw [hdq];rfl)) ?_|refine zj (by first|exact hdq|(rw [hdq];rfl)) ?_|refine zk (by first|exact hdq|(rw [hdq];rfl)) ?_)
          conv=>whnf
          exact zf [] h
         ·rw [if_neg fun hh=>hq hh.2.2] at h
          have hdq:decide (zdq key nonce aad (List.take ((s.length:Int)-16).toNat s)=List.drop ((s.length:Int)-16).toNat s)=false:=decide_eq_false (by rw [hn];exact hq)
          repeat ((conv=>whnf);first|refine zu ?_|refine zg ?_|refine zh ?_|refine zb ?_|refine zr (by first|exact hdq|(rw [hdq];rfl)) ?_|refine zj (by first|exact hdq|(rw [hdq];rfl)) ?_|refine zk (by first|exact hdq|(rw [hdq];rfl)) ?_)
          conv=>whnf
          exact zf [] h
        ·rw [if_neg fun hh=>h4 hh.1.2.2.2] at h
         refine za ?_
         exact zf [] h
       ·rw [if_neg fun hh=>h5 hh.2.1] at h
        refine za ?_
        exact zf [] h
      ·rw [if_neg fun hh=>h3 hh.1.2.2.1] at h
       refine za ?_
       exact zf [] h
     ·rw [if_neg fun hh=>h2 hh.1.2.1] at h
      refine za ?_
      exact zf [] h
    ·rw [if_neg fun hh=>h1 hh.1.1] at h
     refine za ?_
     exact zf [] h
   ·exact h.elim
end Go.Sym.Z

namespace Go.Sym.Pol
open Go.Sym.Lp
theorem zm0 {x:List UInt64} (h:x.length=5) {B:Nat} (hB:B≤1152921504606846976) (hb: ∀i,i<5→(g64 x i).toNat≤B):
    ∃k,ws x=ws (rcd x)+k*pP∧(rcd x).length=5∧(g64 (rcd x) 0).toNat≤67108863+5*(B/ 67108864+B/ 67108864/ 33554432+1)∧(∀i,0<i→i<5→(g64 (rcd x) i).toNat<67108864):=by
  obtain ⟨a,b,c,d,e,rfl⟩:=zeh h
  have ha:a.toNat≤B:=hb 0 (by decide)
  have hb':b.toNat≤B:=hb 1 (by decide)
  have hc:c.toNat≤B:=hb 2 (by decide)
  have hd:d.toNat≤B:=hb 3 (by decide)
  have he:e.toNat≤B:=hb 4 (by decide)
  rw [z8p]
  simp only
  have e0:(a+0).toNat=a.toNat:=xn (by show a.toNat+0<_;omega)
  generalize a+0=a' at*
  have s0:=zco a'
  have n0:=zbl a'
  generalize a'>>>(26:UInt64)=c0 at*
  generalize a'&&&M26=a0 at*
  have e1:(b+c0).toNat=b.toNat+c0.toNat:=xn (by omega)
  generalize b+c0=b1 at*
  have s1:=zco b1
  have n1:=zbl b1
  generalize b1>>>(26:UInt64)=c1 at*
  have e2:(c+c1).toNat=c.toNat+c1.toNat:=xn (by omega)
  generalize c+c1=c' at*
  have s2:=zco c'
  have n2:=zbl c'
  generalize c'>>>(26:UInt64)=c2 at*
  have e3:(d+c2).toNat=d.toNat+c2.toNat:=xn (by omega)
  generalize d+c2=d' at*
  have s3:=zco d'
  have n3:=zbl d'
  generalize d'>>>(26:UInt64)=c3 at*
  have e4:(e+c3).toNat=e.toNat+c3.toNat:=xn (by omega)
  generalize e+c3=e' at*
  have s4:=zco e'
  have n4:=zbl e'
  generalize e'>>>(26:UInt64)=c4 at*
  have m5:(5*c4).toNat=5*c4.toNat:=z2h (by show 5*c4.toNat<_;omega)
  have e5:(a0+5*c4).toNat=a0.toNat+5*c4.toNat:=by rw [xn (by omega),m5]
  refine ⟨c4.toNat,?_,rfl,?_,?_⟩
  ·simp only [ws]
   rw [e5,n1,n2,n3,n4]
   unfold pP
   omega
  ·show (a0+5*c4).toNat≤_
   rw [e5];omega
  ·intro i h0 hi
   have:i=1∨i=2∨i=3∨i=4:=by omega
   rcases this with rfl|rfl|rfl|rfl
   ·show (b1&&&M26).toNat<_;omega
   ·show (c'&&&M26).toNat<_;omega
   ·show (d'&&&M26).toNat<_;omega
   ·show (e'&&&M26).toNat<_;omega
end Go.Sym.Pol
namespace Go.Sym.Pol
theorem znw {x r:List UInt64} (hx:x.length=5) (hr:r.length=5) (bx: ∀i,i<5→(g64 x i).toNat<268435456) (br: ∀i,i<5→(g64 r i).toNat<67108864):
    (∃k,ws x*ws r=ws (zcj x r)+k*pP)∧ ∀i,i<5→(g64 (zcj x r) i).toNat<134217728:=by
  obtain ⟨⟨k1,e1⟩,hb⟩:=z61 hx hr bx br
  obtain ⟨k2,e2,l2,a2,b2⟩:=zm0 (zb0 x r 25) (B:=1152921504606846976) (Nat.le_refl _) (fun i hi=>Nat.le_of_lt (hb i hi))
  have a2':(g64 (rcd (xu x r 25)) 0).toNat≤100000000000:=by omega
  obtain ⟨k3,e3,l3,a3,b3⟩:=zm0 l2 (B:=100000000000) (by omega) (fun i hi=>by
    by_cases h0:i=0
    ·rw [h0];exact a2'
    ·have:=b2 i (by omega) hi;omega)
  refine ⟨⟨k1+k2+k3,?_⟩,?_⟩
  ·unfold zcj
   rw [e1,e2,e3,Nat.add_mul,Nat.add_mul]
   omega
  ·intro i hi
   unfold zcj
   by_cases h0:i=0
   ·rw [h0];omega
   ·have:=b3 i (by omega) hi;omega
theorem zr8 {x r:List UInt64} (hx:x.length=5) (hr:r.length=5) (bx: ∀i,i<5→(g64 x i).toNat<268435456) (br: ∀i,i<5→(g64 r i).toNat<67108864):
    (∃k,ws x*ws r=ws (zgr x r)+k*pP)∧ ∀i,i<5→(g64 (zgr x r) i).toNat<134217728:=by
  obtain ⟨⟨k1,e1⟩,hb⟩:=z61 hx hr bx br
  obtain ⟨k2,e2,l2,b2,_⟩:=z1p (zb0 x r 25) hb
  refine ⟨⟨k1+k2,?_⟩,?_⟩
  ·unfold zgr
   rw [e1,e2,Nat.add_mul]
   omega
  ·intro i hi
   unfold zgr
   have:=b2 i hi
   omega
end Go.Sym.Pol
namespace Go.Sym.Pol
theorem zjs {x y:List UInt64} (hx:x.length=5) (hy:y.length=5) (bx: ∀i,i<5→(g64 x i).toNat<134217728) (bz: ∀i,i<5→(g64 y i).toNat<67108864):
    ws (zkb x y)=ws x+ws y∧ ∀i,i<5→(g64 (zkb x y) i).toNat<268435456:=by
  obtain ⟨a,b,c,d,e,rfl⟩:=zeh hx
  obtain ⟨r,s,t,u,v,rfl⟩:=zeh hy
  have ha:a.toNat<134217728:=bx 0 (by decide)
  have hb:b.toNat<134217728:=bx 1 (by decide)
  have hc:c.toNat<134217728:=bx 2 (by decide)
  have hd:d.toNat<134217728:=bx 3 (by decide)
  have he:e.toNat<134217728:=bx 4 (by decide)
  have hr:r.toNat<67108864:=bz 0 (by decide)
  have hs:s.toNat<67108864:=bz 1 (by decide)
  have ht:t.toNat<67108864:=bz 2 (by decide)
  have hu:u.toNat<67108864:=bz 3 (by decide)
  have hv:v.toNat<67108864:=bz 4 (by decide)
  have e1:(a+r).toNat=a.toNat+r.toNat:=xn (by omega)
  have e2:(b+s).toNat=b.toNat+s.toNat:=xn (by omega)
  have e3:(c+t).toNat=c.toNat+t.toNat:=xn (by omega)
  have e4:(d+u).toNat=d.toNat+u.toNat:=xn (by omega)
  have e5:(e+v).toNat=e.toNat+v.toNat:=xn (by omega)
  have ea:zkb [a,b,c,d,e] [r,s,t,u,v]= [a+r,b+s,c+t,d+u,e+v]:=rfl
  rw [ea]
  refine ⟨?_,?_⟩
  ·simp only [ws]
   rw [e1,e2,e3,e4,e5]
   omega
  ·intro i hi
   have:i=0∨i=1∨i=2∨i=3∨i=4:=by omega
   rcases this with rfl|rfl|rfl|rfl|rfl
   ·show (a+r).toNat<_;omega
   ·show (b+s).toNat<_;omega
   ·show (c+t).toNat<_;omega
   ·show (d+u).toNat<_;omega
   ·show (e+v).toNat<_;omega
theorem zra {x y:List UInt64} (hx:x.length=5) (hy:y.length=5):zg4 x y 5=zkb x y:=by
  obtain ⟨a,b,c,d,e,rfl⟩:=zeh hx
  obtain ⟨r,s,t,u,v,rfl⟩:=zeh hy
  rfl
theorem z29 {x y r m n:List UInt64} (hx:x.length=5) (hy:y.length=5) (hr:r.length=5) (hm:m.length=5) (hn:n.length=5)
    (bx: ∀i,i<5→(g64 x i).toNat<134217728) (bz: ∀i,i<5→(g64 y i).toNat<134217728) (br: ∀i,i<5→(g64 r i).toNat<67108864)
    (bm: ∀i,i<5→(g64 m i).toNat<67108864) (bn: ∀i,i<5→(g64 n i).toNat<67108864) (e:ws x%pP=ws y%pP) (em:ws m=ws n):
    ws (zgr (zkb x m) r)%pP=ws (zcj (zg4 y n 5) r)%pP:=by
  obtain ⟨v1,b1⟩:=zjs hx hm bx bm
  obtain ⟨v2,b2⟩:=zjs hy hn bz bn
  rw [zra hy hn]
  obtain ⟨⟨k1,q1⟩,_⟩:=zr8 (zgs x m) hr b1 br
  obtain ⟨⟨k2,q2⟩,_⟩:=znw (zgs y n) hr b2 br
  have f1:ws (zgr (zkb x m) r)%pP=(ws (zkb x m)*ws r)%pP:=by rw [q1,Nat.add_mul_mod_self_right]
  have f2:ws (zcj (zkb y n) r)%pP=(ws (zkb y n)*ws r)%pP:=by rw [q2,Nat.add_mul_mod_self_right]
  rw [f1,f2,v1,v2,em,Nat.mul_mod,Nat.add_mod,e,←Nat.add_mod,←Nat.mul_mod]
end Go.Sym.Pol

namespace Go.Sym.Pol
open Go.Sym.Lp
theorem yd2 {x:List UInt64} (h:x.length=5) {l:Nat} (hl:l<5) (v:UInt64):
    ws (x.set l v)+2^(26*l)*(g64 x l).toNat=ws x+2^(26*l)*v.toNat:=by
  obtain ⟨a,b,c,d,e,rfl⟩:=zeh h
  have:l=0∨l=1∨l=2∨l=3∨l=4:=by omega
  rcases this with rfl|rfl|rfl|rfl|rfl
  ·show v.toNat+_+_+_+_+1*a.toNat=a.toNat+_+_+_+_+1*v.toNat;omega
  ·show _+67108864*v.toNat+_+_+_+67108864*b.toNat=_+67108864*b.toNat+_+_+_+67108864*v.toNat;omega
  ·show _+_+4503599627370496*v.toNat+_+_+4503599627370496*c.toNat=_+_+4503599627370496*c.toNat+_+_+4503599627370496*v.toNat;omega
  ·show _+_+_+302231454903657293676544*v.toNat+_+302231454903657293676544*d.toNat=_+_+_+302231454903657293676544*d.toNat+_+302231454903657293676544*v.toNat;omega
  ·show _+_+_+_+20282409603651670423947251286016*v.toNat+20282409603651670423947251286016*e.toNat=_+_+_+_+20282409603651670423947251286016*e.toNat+20282409603651670423947251286016*v.toNat;omega
theorem z5z {a:UInt64} {k:Nat} (hk:k<64) (h:a.toNat<2^k):(a|||UInt64.ofNat 1<<<UInt64.ofNat k).toNat=a.toNat+2^k:=by
  have hp:2^k<2^64:=Nat.pow_lt_pow_right (by decide) hk
  have hk2:(UInt64.ofNat k).toNat=k:=by rw [UInt64.toNat_ofNat'];omega
  rw [UInt64.toNat_or,UInt64.toNat_shiftLeft,hk2,Nat.mod_eq_of_lt hk]
  show a.toNat|||(1<<<k)%2^64=_
  rw [Nat.one_shiftLeft,Nat.mod_eq_of_lt hp,Nat.or_comm]
  have e:=Nat.two_pow_add_eq_or_of_lt h 1
  rw [Nat.mul_one] at e
  rw [←e,Nat.add_comm]
def zcp (P:Nat→Bool):Nat→Nat
  |0=>0
  |i+1=>zcp P i+if P i=true then 2^i else 0
theorem zjw (P:Nat→Bool): ∀i,i≤130→ws (xz P i)=zcp P i∧ ∀l,l<5→(g64 (xz P i) l).toNat<2^(min 26 (i-26*l))
  |0,_=>⟨rfl,fun l hl=>by
   have h0:(g64 (xz P 0) l).toNat=0:=by
     have:l=0∨l=1∨l=2∨l=3∨l=4:=by omega
     rcases this with rfl|rfl|rfl|rfl|rfl<;>rfl
   rw [h0]
   exact Nat.pow_pos (by decide)⟩
  |i+1,h=>by
   obtain ⟨hv,hb⟩:=zjw P i (by omega)
   have hmono: ∀l,2^(min 26 (i-26*l))≤2^(min 26 (i+1-26*l)):=fun l=>Nat.pow_le_pow_right (by decide) (by omega)
   by_cases hp:P i=true
   ·rw [zlc hp]
    have hl5:i/ 26<5:=by omega
    have hg:(g64 (xz P i) (i/ 26)).toNat<2^(i%26):=by
      have:=hb (i/ 26) hl5
      rwa [show min 26 (i-26*(i/ 26))=i%26 by omega] at this
    have ho:=z5z (a:=g64 (xz P i) (i/ 26)) (k:=i%26) (by omega) hg
    refine ⟨?_,?_⟩
    ·have hs:=yd2 (zb5 P i) hl5 (g64 (xz P i) (i/ 26)|||UInt64.ofNat 1<<<UInt64.ofNat (i%26))
     rw [ho,Nat.mul_add,←Nat.pow_add,show 26*(i/ 26)+i%26=i by omega] at hs
     simp only [zcp]
     rw [if_pos hp,←hv]
     omega
    ·intro l hl
     by_cases hli:l=i/ 26
     ·rw [hli]
      have hgs:g64 ((xz P i).set (i/ 26) (g64 (xz P i) (i/ 26)|||UInt64.ofNat 1<<<UInt64.ofNat (i%26))) (i/ 26)=g64 (xz P i) (i/ 26)|||UInt64.ofNat 1<<<UInt64.ofNat (i%26):=by
        unfold g64
        rw [List.getD_eq_getElem?_getD,List.getElem?_set_self (by rw [zb5];exact hl5)];rfl
      rw [hgs,ho,show min 26 (i+1-26*(i/ 26))=i%26+1 by omega,Nat.pow_succ]
      omega
     ·have hgs:g64 ((xz P i).set (i/ 26) (g64 (xz P i) (i/ 26)|||UInt64.ofNat 1<<<UInt64.ofNat (i%26))) l=g64 (xz P i) l:=by
        unfold g64
        rw [List.getD_eq_getElem?_getD,List.getElem?_set_ne (by omega),←List.getD_eq_getElem?_getD]
      rw [hgs]
      exact Nat.lt_of_lt_of_le (hb l hl) (hmono l)
   ·have hp2:P i=false:=by cases hh:P i with|true=>exact absurd hh hp|false=>rfl
    rw [zqk hp2]
    refine ⟨?_,fun l hl=>Nat.lt_of_lt_of_le (hb l hl) (hmono l)⟩
    simp only [zcp]
    rw [if_neg hp,hv,Nat.add_zero]
end Go.Sym.Pol

namespace Go.Sym.Pol
open Go.Sym.Lp
theorem zvq (P:Nat→Bool): ∀i,zcp P i<2^i
  |0=>Nat.one_pos
  |i+1=>by
   have h:=zvq P i
   simp only [zcp]
   rw [Nat.pow_succ]
   split<;>omega
theorem zl5 {P Q:Nat→Bool}: ∀i,(∀j,j<i→P j=Q j)→zcp P i=zcp Q i
  |0,_=>rfl
  |i+1,h=>by
   simp only [zcp]
   rw [zl5 i (fun j hj=>h j (by omega)),h i (by omega)]
theorem z8v (P:Nat→Bool) {i:Nat} (h:i≤129):
    ws ((xz P i).set (i/ 26) (g64 (xz P i) (i/ 26)|||UInt64.ofNat 1<<<UInt64.ofNat (i%26)))=zcp P i+2^i∧
    ∀l,l<5→(g64 ((xz P i).set (i/ 26) (g64 (xz P i) (i/ 26)|||UInt64.ofNat 1<<<UInt64.ofNat (i%26))) l).toNat<67108864:=by
  have hc:xz P i=xz (fun j=>if j=i then true else P j) i:=by
    have: ∀k,k≤i→xz P k=xz (fun j=>if j=i then true else P j) k:=by
      intro k
      induction k with
      |zero=>intro _;rfl
      |succ k ih=>
       intro hk
       have hQ:(fun j=>if j=i then true else P j) k=P k:=if_neg (by omega)
       have ih2:=ih (by omega)
       cases hp:P k with
       |true=>rw [zlc hp,zlc (hQ.trans hp),←ih2]
       |false=>rw [zqk hp,zqk (hQ.trans hp),←ih2]
    exact this i (Nat.le_refl _)
  have hs:xz (fun j=>if j=i then true else P j) (i+1)=(xz P i).set (i/ 26) (g64 (xz P i) (i/ 26)|||UInt64.ofNat 1<<<UInt64.ofNat (i%26)):=by
    rw [zlc (by simp),←hc]
  obtain ⟨hv,hb⟩:=zjw (fun j=>if j=i then true else P j) (i+1) (by omega)
  rw [hs] at hv hb
  refine ⟨?_,fun l hl=>Nat.lt_of_lt_of_le (hb l hl) (Nat.pow_le_pow_right (n:=2) (by decide) (Nat.min_le_left 26 _))⟩
  rw [hv]
  simp only [zcp,if_true]
  rw [zl5 (Q:=P) i (fun j hj=>if_neg (by omega))]
theorem zwu (s:List UInt8) (at':Nat) {n:Nat} (hn:n≤16):
    ws (zqw s at' n)=zcp (zc2 s at') (8*n)+2^(8*n)∧ ∀l,l<5→(g64 (zqw s at' n) l).toNat<67108864:=
  z8v (zc2 s at') (by omega)
end Go.Sym.Pol

namespace Go.Sym.Pol
open Go.Sym.Lp
def w3:List UInt64→Nat
  | [a,b,c]=>a.toNat+18446744073709551616*b.toNat+340282366920938463463374607431768211456*c.toNat
  |_=>0
theorem zre {x:List UInt64} (h:x.length=3): ∃a b c,x= [a,b,c]:=by
  match x,h with
  | [a,b,c],_=>exact ⟨a,b,c,rfl⟩
theorem z4c {x:List UInt64} (h:x.length=3) {l:Nat} (hl:l<3) (v:UInt64):
    w3 (x.set l v)+2^(64*l)*(g64 x l).toNat=w3 x+2^(64*l)*v.toNat:=by
  obtain ⟨a,b,c,rfl⟩:=zre h
  have:l=0∨l=1∨l=2:=by omega
  rcases this with rfl|rfl|rfl
  ·show v.toNat+_+_+1*a.toNat=a.toNat+_+_+1*v.toNat;omega
  ·show _+18446744073709551616*v.toNat+_+18446744073709551616*b.toNat=_+18446744073709551616*b.toNat+_+18446744073709551616*v.toNat;omega
  ·show _+_+340282366920938463463374607431768211456*v.toNat+340282366920938463463374607431768211456*c.toNat=_+_+340282366920938463463374607431768211456*c.toNat+340282366920938463463374607431768211456*v.toNat;omega
theorem ycv {a:UInt64} {y:UInt8} {k:Nat} (hk:k≤56) (h:a.toNat<2^k):(a|||y.toUInt64<<<UInt64.ofNat k).toNat=a.toNat+2^k*y.toNat:=by
  have hk2:(UInt64.ofNat k).toNat=k:=by rw [UInt64.toNat_ofNat'];omega
  have hy:y.toNat<256:=y.toNat_lt
  have hp:2^k≤2^56:=Nat.pow_le_pow_right (by decide) hk
  have hm:2^k*y.toNat≤2^56*255:=Nat.mul_le_mul hp (by omega)
  rw [UInt64.toNat_or,UInt64.toNat_shiftLeft,hk2,Nat.mod_eq_of_lt (a:=k) (by omega)]
  show a.toNat|||(y.toNat<<<k)%2^64=_
  rw [Nat.shiftLeft_eq,Nat.mul_comm y.toNat,Nat.mod_eq_of_lt (by omega),Nat.or_comm,←Nat.two_pow_add_eq_or_of_lt h,Nat.add_comm]
def leN (b:List UInt8):Nat→Nat
  |0=>0
  |i+1=>leN b i+2^(8*i)*(b.getD i 0).toNat
theorem zvo (b:List UInt8): ∀i,i≤16→w3 (zba b i)=leN b i∧ ∀l,l<3→(g64 (zba b i) l).toNat<2^(min 64 (8*i-64*l))
  |0,_=>⟨rfl,fun l hl=>by
   have h0:(g64 (zba b 0) l).toNat=0:=by
     have:l=0∨l=1∨l=2:=by omega
     rcases this with rfl|rfl|rfl<;>rfl
   rw [h0]
   exact Nat.pow_pos (by decide)⟩
  |i+1,h=>by
   obtain ⟨hv,hb⟩:=zvo b i (by omega)
   have hl3:i/ 8<3:=by omega
   have hg:(g64 (zba b i) (i/ 8)).toNat<2^(8*(i%8)):=by
     have:=hb (i/ 8) hl3
     rwa [show min 64 (8*i-64*(i/ 8))=8*(i%8) by omega] at this
   have ho:=ycv (a:=g64 (zba b i) (i/ 8)) (y:=b.getD i 0) (k:=8*(i%8)) (by omega) hg
   simp only [zba,leN]
   refine ⟨?_,?_⟩
   ·have hs:=z4c (zd9 b i) hl3 (g64 (zba b i) (i/ 8)|||(b.getD i 0).toUInt64<<<UInt64.ofNat (8*(i%8)))
    rw [ho,Nat.mul_add,←Nat.mul_assoc,←Nat.pow_add,show 64*(i/ 8)+8*(i%8)=8*i by omega] at hs
    rw [←hv]
    omega
   ·intro l hl
    by_cases hli:l=i/ 8
    ·rw [hli]
     have hgs:g64 ((zba b i).set (i/ 8) (g64 (zba b i) (i/ 8)|||(b.getD i 0).toUInt64<<<UInt64.ofNat (8*(i%8)))) (i/ 8)=g64 (zba b i) (i/ 8)|||(b.getD i 0).toUInt64<<<UInt64.ofNat (8*(i%8)):=by
       unfold g64
       rw [List.getD_eq_getElem?_getD,List.getElem?_set_self (by rw [zd9];exact hl3)];rfl
     have hy:(b.getD i 0).toNat<256:=(b.getD i 0).toNat_lt
     have hm:2^(8*(i%8))*(b.getD i 0).toNat≤2^(8*(i%8))*255:=Nat.mul_le_mul (Nat.le_refl _) (by omega)
     rw [hgs,ho,show min 64 (8*(i+1)-64*(i/ 8))=8*(i%8)+8 by omega,Nat.pow_add]
     show _<2^(8*(i%8))*256
     omega
    ·have hgs:g64 ((zba b i).set (i/ 8) (g64 (zba b i) (i/ 8)|||(b.getD i 0).toUInt64<<<UInt64.ofNat (8*(i%8)))) l=g64 (zba b i) l:=by
       unfold g64
       rw [List.getD_eq_getElem?_getD,List.getElem?_set_ne (by omega),←List.getD_eq_getElem?_getD]
     rw [hgs]
     exact Nat.lt_of_lt_of_le (hb l hl) (Nat.pow_le_pow_right (by decide) (by omega))
end Go.Sym.Pol

namespace Go.Sym.Pol
open Go.Sym.Lp
theorem yg2 (y:UInt8) {k:Nat} (h:k<8):(y>>>UInt8.ofNat k&&&UInt8.ofNat 1=UInt8.ofNat 1)↔y.toNat/ 2^k%2=1:=by
  have hk:(UInt8.ofNat k).toNat=k:=by rw [UInt8.toNat_ofNat'];omega
  rw [←UInt8.toNat_inj,UInt8.toNat_and,UInt8.toNat_shiftRight,hk,Nat.mod_eq_of_lt h]
  show (y.toNat>>>k)&&&(2^1-1)=1↔_
  rw [Nat.and_two_pow_sub_one_eq_mod,Nat.shiftRight_eq_div_pow]
theorem zwl (y k:Nat):y%2^(k+1)=y%2^k+2^k*(y/ 2^k%2):=by
  rw [Nat.pow_succ,Nat.mod_mul]
theorem zse {P:Nat→Bool} {i y:Nat} (hP: ∀k,k<8→(P (8*i+k)=true↔y/ 2^k%2=1)): ∀k,k≤8→zcp P (8*i+k)=zcp P (8*i)+2^(8*i)*(y%2^k)
  |0,_=>by rw [Nat.pow_zero,Nat.mod_one,Nat.mul_zero];rfl
  |k+1,h=>by
   have ih:=zse hP k (by omega)
   show (zcp P (8*i+k)+if P (8*i+k)=true then 2^(8*i+k) else 0)=_
   rw [ih,zwl,Nat.mul_add,←Nat.mul_assoc,←Nat.pow_add]
   by_cases hp:P (8*i+k)=true
   ·rw [if_pos hp,(hP k (by omega)).1 hp];omega
   ·rw [if_neg hp]
    have:y/ 2^k%2=0:=by
      have:=mt (hP k (by omega)).2 hp
      omega
    rw [this];omega
theorem zir {P:Nat→Bool} {b:List UInt8} {n:Nat} (hP: ∀i k,i<n→k<8→(P (8*i+k)=true↔(b.getD i 0).toNat/ 2^k%2=1)): ∀i,i≤n→zcp P (8*i)=leN b i
  |0,_=>rfl
  |i+1,h=>by
   have hb:=zse (fun k hk=>hP i k (by omega) hk) 8 (Nat.le_refl 8)
   have hy:(b.getD i 0).toNat<2^8:=(b.getD i 0).toNat_lt
   rw [Nat.mod_eq_of_lt hy] at hb
   show zcp P (8*i+8)=leN b i+_
   rw [hb,zir hP i (by omega)]
theorem ybd {s:List UInt8} {at' n:Nat} (hn:n≤16):
    ws (zqw s at' n)=leN ((s.drop at').take n) n+2^(8*n):=by
  rw [(zwu s at' hn).1,zir (b:=(s.drop at').take n) (n:=n) ?_ n (Nat.le_refl n)]
  intro i k hi hk
  have e:((s.drop at').take n).getD i 0=s.getD (at'+i) 0:=by
    rw [List.getD_eq_getElem?_getD,List.getElem?_take_of_lt hi,List.getElem?_drop,←List.getD_eq_getElem?_getD]
  unfold zc2
  rw [e,decide_eq_true_iff,show (8*i+k)/ 8=i by omega,show (8*i+k)%8=k by omega]
  exact yg2 _ hk
end Go.Sym.Pol

namespace Go.Sym.Pol
open Go.Sym.Lp
theorem zrm (x:UInt64) {k:Nat} (h:k<64):(x>>>UInt64.ofNat k).toNat=x.toNat/ 2^k:=by
  have hk:(UInt64.ofNat k).toNat=k:=by rw [UInt64.toNat_ofNat'];omega
  rw [UInt64.toNat_shiftRight,hk,Nat.mod_eq_of_lt h,Nat.shiftRight_eq_div_pow]
theorem yef (x y:UInt64) {k:Nat} (h:k<64) (hx:x.toNat<2^k) (hy:y.toNat*2^k<2^64):(x|||y<<<UInt64.ofNat k).toNat=x.toNat+2^k*y.toNat:=by
  have hk:(UInt64.ofNat k).toNat=k:=by rw [UInt64.toNat_ofNat'];omega
  rw [UInt64.toNat_or,UInt64.toNat_shiftLeft,hk,Nat.mod_eq_of_lt h,Nat.shiftLeft_eq,Nat.mod_eq_of_lt hy,Nat.or_comm,Nat.mul_comm,←Nat.two_pow_add_eq_or_of_lt hx,Nat.add_comm]
theorem z86 {a b c:UInt64} (hc:c.toNat≤1):ws (ygo [a,b,c])=w3 [a,b,c]∧ ∀l,l<5→(g64 (ygo [a,b,c]) l).toNat<67108864:=by
  have ha:=a.toNat_lt
  have hb:=b.toNat_lt
  have e0:(a&&&M26).toNat=a.toNat%67108864:=zbl a
  have e1:(a>>>(26:UInt64)&&&M26).toNat=a.toNat/ 67108864%67108864:=by rw [zbl,zco]
  have f2:(b<<<(12:UInt64)).toNat=4096*(b.toNat%4503599627370496):=by
    rw [UInt64.toNat_shiftLeft,Nat.shiftLeft_eq];show b.toNat*4096%18446744073709551616=_;omega
  have g2:(a>>>(52:UInt64)).toNat=a.toNat/ 4503599627370496:=zrm a (k:=52) (by decide)
  have o2:(a>>>(52:UInt64)|||b<<<(12:UInt64)).toNat=a.toNat/ 4503599627370496+4096*(b.toNat%4503599627370496):=by
    have hlt:a.toNat/ 4503599627370496<2^12:=by show _<4096;omega
    rw [UInt64.toNat_or,f2,g2,Nat.or_comm]
    show 2^12*(b.toNat%4503599627370496)|||_=_
    rw [←Nat.two_pow_add_eq_or_of_lt hlt,Nat.add_comm]
  have e2:((a>>>(52:UInt64)|||b<<<(12:UInt64))&&&M26).toNat=(a.toNat/ 4503599627370496+4096*(b.toNat%4503599627370496))%67108864:=by rw [zbl,o2]
  have g3:(b>>>(14:UInt64)).toNat=b.toNat/ 16384:=zrm b (k:=14) (by decide)
  have e3:(b>>>(14:UInt64)&&&M26).toNat=b.toNat/ 16384%67108864:=by rw [zbl,g3]
  have g4:(b>>>(40:UInt64)).toNat=b.toNat/ 1099511627776:=zrm b (k:=40) (by decide)
  have e4:(b>>>(40:UInt64)|||c<<<(24:UInt64)).toNat=b.toNat/ 1099511627776+16777216*c.toNat:=by
    rw [show (c<<<(24:UInt64))=c<<<UInt64.ofNat 24 from rfl,yef _ c (k:=24) (by decide) (by rw [g4];show _<16777216;omega) (by show c.toNat*16777216<18446744073709551616;omega),g4]
  refine ⟨?_,?_⟩
  ·show (a&&&M26).toNat+67108864*(a>>>(26:UInt64)&&&M26).toNat+4503599627370496*((a>>>(52:UInt64)|||b<<<(12:UInt64))&&&M26).toNat+302231454903657293676544*(b>>>(14:UInt64)&&&M26).toNat+20282409603651670423947251286016*(b>>>(40:UInt64)|||c<<<(24:UInt64)).toNat=a.toNat+18446744073709551616*b.toNat+340282366920938463463374607431768211456*c.toNat
   rw [e0,e1,e2,e3,e4]
   omega
  ·intro l hl
   have:l=0∨l=1∨l=2∨l=3∨l=4:=by omega
   rcases this with rfl|rfl|rfl|rfl|rfl
   ·show (a&&&M26).toNat<_;omega
   ·show (a>>>(26:UInt64)&&&M26).toNat<_;omega
   ·show ((a>>>(52:UInt64)|||b<<<(12:UInt64))&&&M26).toNat<_;omega
   ·show (b>>>(14:UInt64)&&&M26).toNat<_;omega
   ·show (b>>>(40:UInt64)|||c<<<(24:UInt64)).toNat<_;omega
end Go.Sym.Pol

namespace Go.Sym.Pol
open Go.Sym.Lp
theorem zrz {b:List UInt8} (hb:b.length≤16):
    ws (zef b)=leN b b.length+2^(8*b.length)∧ ∀l,l<5→(g64 (zef b) l).toNat<67108864:=by
  obtain ⟨hv,hl⟩:=zvo b b.length hb
  obtain ⟨n,hn⟩: ∃n,n=b.length:=⟨_,rfl⟩
  rw [←hn] at hv hl hb ⊢
  have hl3:n/ 8<3:=by omega
  have hg:(g64 (zba b n) (n/ 8)).toNat<2^(8*(n%8)):=by
    have:=hl (n/ 8) hl3
    rwa [show min 64 (8*n-64*(n/ 8))=8*(n%8) by omega] at this
  have ho:=z5z (a:=g64 (zba b n) (n/ 8)) (k:=8*(n%8)) (by omega) hg
  have hs:=z4c (zd9 b n) hl3 (g64 (zba b n) (n/ 8)|||UInt64.ofNat 1<<<UInt64.ofNat (8*(n%8)))
  rw [ho,Nat.mul_add,←Nat.pow_add,show 64*(n/ 8)+8*(n%8)=8*n by omega] at hs
  have hW:ldW b=(zba b n).set (n/ 8) (g64 (zba b n) (n/ 8)|||UInt64.ofNat 1<<<UInt64.ofNat (8*(n%8))):=by
    rw [hn];rfl
  have hw3:w3 (ldW b)=leN b n+2^(8*n):=by rw [hW,←hv];omega
  have hlen:(ldW b).length=3:=by rw [hW,List.length_set];exact zd9 _ _
  obtain ⟨x,y,z,e⟩:=zre hlen
  have hle:leN b n<2^(8*n)∨True:=Or.inr trivial
  have hz:z.toNat≤1:=by
    have h2:(g64 (zba b n) 2).toNat<2^(min 64 (8*n-64*2)):=hl 2 (by decide)
    rw [show min 64 (8*n-64*2)=0 by omega] at h2
    have h2':(g64 (zba b n) 2).toNat=0:=by omega
    have hz0:z=g64 (ldW b) 2:=by rw [e];rfl
    by_cases h16:n/ 8=2
    ·have hgs:g64 (ldW b) 2=g64 (zba b n) (n/ 8)|||UInt64.ofNat 1<<<UInt64.ofNat (8*(n%8)):=by
       rw [hW];unfold g64
       rw [h16,List.getD_eq_getElem?_getD,List.getElem?_set_self (by rw [zd9];decide)];rfl
     rw [hz0,hgs,ho,h16,h2',show 8*(n%8)=0 by omega]
     exact Nat.le_refl 1
    ·have hgs:g64 (ldW b) 2=g64 (zba b n) 2:=by
       rw [hW];unfold g64
       rw [List.getD_eq_getElem?_getD,List.getElem?_set_ne (by omega),←List.getD_eq_getElem?_getD]
     rw [hz0,hgs,h2']
     exact Nat.zero_le 1
  obtain ⟨q1,q2⟩:=z86 (a:=x) (b:=y) hz
  unfold zef
  rw [e]
  rw [e] at hw3
  exact ⟨q1.trans hw3,q2⟩
end Go.Sym.Pol

namespace Go.Sym.Pol
open Go.Sym.Lp
theorem z4p (key s:List UInt8): ∀t,t≤(s.length+15)/ 16→
    ws (zcd (xz (zan key) 128) [0,0,0,0,0] s t)%pP=ws (zd3 key s t)%pP∧
    (∀i,i<5→(g64 (zcd (xz (zan key) 128) [0,0,0,0,0] s t) i).toNat<134217728)∧(∀i,i<5→(g64 (zd3 key s t) i).toNat<134217728)
  |0,_=>by
   have z: ∀i,i<5→(g64 [0,0,0,0,0] i).toNat<134217728:=by decide
   exact ⟨rfl,z,z⟩
  |t+1,h=>by
   obtain ⟨e,b1,b2⟩:=z4p key s t (by omega)
   have hR: ∀i,i<5→(g64 (xz (zan key) 128) i).toNat<67108864:=fun l hl=>Nat.lt_of_lt_of_le ((zjw (zan key) 128 (by decide)).2 l hl) (Nat.pow_le_pow_right (n:=2) (by decide) (Nat.min_le_left 26 _))
   have hRl:=zb5 (zan key) 128
   obtain ⟨n,hn⟩: ∃n,n=min 16 (s.length-16*t):=⟨_,rfl⟩
   have hbl:((s.drop (16*t)).take 16).length=n:=by rw [List.length_take,List.length_drop,hn]
   have hbe:(s.drop (16*t)).take n=(s.drop (16*t)).take 16:=by
     have h1:=List.take_take (i:=n) (j:=16) (l:=s.drop (16*t))
     rw [Nat.min_eq_left (by omega)] at h1
     rw [←h1]
     exact List.take_of_length_le (by rw [hbl];exact Nat.le_refl _)
   obtain ⟨v1,c1⟩:=zrz (b:=(s.drop (16*t)).take 16) (by omega)
   obtain ⟨_,c2⟩:=zwu s (16*t) (n:=n) (by omega)
   have v2:=ybd (s:=s) (at':=16*t) (n:=n) (by omega)
   rw [hbe] at v2
   rw [hbl,←v2] at v1
   have z5:([0,0,0,0,0]:List UInt64).length=5:=rfl
   have la:=ze0 (r:=xz (zan key) 128) z5 s t
   have lr:=zp5 key s t
   have st:=z29 la lr hRl (zcy _) (zgu s (16*t) n) b1 b2 hR c1 c2 e v1
   obtain ⟨_,d1⟩:=zjs la (zcy ((s.drop (16*t)).take 16)) b1 c1
   obtain ⟨_,d2⟩:=zjs lr (zgu s (16*t) n) b2 c2
   have f1:=(zr8 (zgs (zcd (xz (zan key) 128) [0,0,0,0,0] s t) (zef ((s.drop (16*t)).take 16))) hRl d1 hR).2
   have f2:=(znw (zgs (zd3 key s t) (zqw s (16*t) n)) hRl d2 hR).2
   rw [←zra lr (zgu s (16*t) n)] at f2
   rw [hn] at st f2
   exact ⟨st,f1,f2⟩
end Go.Sym.Pol

namespace Go.Sym.Pol
open Go.Sym.Lp
theorem z7k {x y:List UInt64} (hx:x.length=5) (hy:y.length=5) (bx: ∀i,i<5→(g64 x i).toNat<67108864) (bz: ∀i,i<5→(g64 y i).toNat<67108864) (e:ws x=ws y):x=y:=by
  obtain ⟨a,b,c,d,f,rfl⟩:=zeh hx
  obtain ⟨r,s,t,u,v,rfl⟩:=zeh hy
  have ha:a.toNat<67108864:=bx 0 (by decide)
  have hb:b.toNat<67108864:=bx 1 (by decide)
  have hc:c.toNat<67108864:=bx 2 (by decide)
  have hd:d.toNat<67108864:=bx 3 (by decide)
  have hf:f.toNat<67108864:=bx 4 (by decide)
  have hr:r.toNat<67108864:=bz 0 (by decide)
  have hs:s.toNat<67108864:=bz 1 (by decide)
  have ht:t.toNat<67108864:=bz 2 (by decide)
  have hu:u.toNat<67108864:=bz 3 (by decide)
  have hv:v.toNat<67108864:=bz 4 (by decide)
  simp only [ws] at e
  have e0:a=r:=UInt64.toNat_inj.1 (by omega)
  have e1:b=s:=UInt64.toNat_inj.1 (by omega)
  have e2:c=t:=UInt64.toNat_inj.1 (by omega)
  have e3:d=u:=UInt64.toNat_inj.1 (by omega)
  have e4:f=v:=UInt64.toNat_inj.1 (by omega)
  rw [e0,e1,e2,e3,e4]
end Go.Sym.Pol
