/-
  Contracts of functions of the program, each said of symbolic values, and plain laws; no condition beyond each statement's own.
-/
import Derived.Test.YtmmpgjcpielefaaGreatG34
set_option linter.unusedSimpArgs false
set_option linter.unusedVariables false
namespace Go.Sym.Z
open Go Go.Proofs.Tryz Go.Sym.Lp Go.Sym.Pol Go.Sym.Cha
set_option maxRecDepth 100000
attribute [local irreducible] yt xl blk xq rcd zb7
def yel:List (Nat×List PStep):= []
def yeh:List (Nat×List PStep):= [(7,[⟨0,[]⟩,⟨1,[0]⟩,⟨2,[0]⟩,⟨3,[]⟩,⟨4,[0,1,2,3]⟩,⟨5,[0,1,2,3]⟩,⟨6,[0,1,2,3]⟩,⟨7,[0,1,2,3]⟩,⟨8,[]⟩,⟨9,[0,1,2,3,4,5,6,7,8]⟩,⟨10,[0,1,2,3,4,5,6,7,8]⟩,⟨11,[]⟩,⟨12,[]⟩,⟨13,[]⟩]),(8,[⟨0,[]⟩,⟨1,[]⟩,⟨2,[0,1]⟩,⟨3,[0,1]⟩,⟨4,[0,1]⟩,⟨5,[0,1]⟩,⟨6,[0,1,2,3,4,5]⟩,⟨7,[0,1,2,3,4,5]⟩,⟨8,[0,1,2,3,4,5]⟩,⟨9,[0,1]⟩,⟨10,[]⟩,⟨11,[]⟩]),(18,[⟨0,[]⟩,⟨1,[]⟩,⟨2,[0,1]⟩,⟨3,[0,1]⟩,⟨4,[0,1]⟩,⟨5,[0,1]⟩,⟨6,[0,1,2,3,4,5]⟩,⟨7,[0,1,2,3,4,5]⟩,⟨8,[0,1,2,3,4,5]⟩,⟨9,[0,1]⟩,⟨10,[]⟩,⟨11,[]⟩]),(20,[⟨0,[]⟩,⟨1,[]⟩,⟨2,[0,1]⟩,⟨3,[0,1]⟩,⟨4,[0,1]⟩,⟨5,[0,1]⟩,⟨6,[0,1,2,3,4,5]⟩,⟨7,[0,1,2,3,4,5]⟩,⟨8,[0,1,2,3,4,5]⟩,⟨9,[0,1]⟩,⟨10,[]⟩,⟨11,[]⟩]),(24,[⟨0,[]⟩,⟨1,[0]⟩,⟨2,[0]⟩,⟨3,[0]⟩,⟨4,[0,1,2,3]⟩,⟨5,[0,1,2,3]⟩,⟨6,[0,1,2,3]⟩,⟨7,[0]⟩,⟨8,[]⟩,⟨9,[]⟩]),(26,[⟨0,[]⟩,⟨1,[0]⟩,⟨2,[0]⟩,⟨3,[]⟩,⟨4,[]⟩])]
def zo8:Spec:=fun args hp K=>match args,hp with
  | [.arr64 5 x,.str s],[]=>Pre (x.length=5∧s.length=16) (K (.str (zpn x s)) [])
  |_,_=>False
set_option maxHeartbeats 8000000 in
theorem z0g:zm prog 127 zo8:=by
  refine zk xa (zc zos zg) rfl func127 rfl call127 (D:=yel) ?_ ?_
  ·intro args hp K h
   unfold zo8 at h
   split at h
   ·exact Nat.le_of_ble_eq_true rfl
   ·exact h.elim
  ·intro args hp K h
   unfold zo8 at h
   split at h
   ·rename_i x s
    obtain ⟨⟨hx,hs⟩,h⟩:=zl h
    have h1:(rcd x).length=5:=by rw [zfc];exact hx
    have h2:(rcd (rcd x)).length=5:=by rw [zfc];exact h1
    obtain ⟨H,hH⟩: ∃H,H=rcd (rcd x):=⟨_,rfl⟩
    have hHl:H.length=5:=by rw [hH];exact h2
    obtain ⟨G,hG⟩: ∃G,G=H.set 0 (g64 H 0+5):=⟨_,rfl⟩
    have hGl:G.length=5:=by rw [hG,List.length_set];exact hHl
    refine za ?_
    rw [←hH]
    refine zp (Ix (5)) (fun q=>⟨[(1,.str s),(2,.ptr 0 0 0 []),(5,.ptr 1 0 0 []),(6,.u64 (zcn G q.i).2),(7,.int q.i)],[.mk 167 [.arr64 5 H],.mk 167 [.arr64 5 (zcn G q.i).1]]⟩) (fun q=>(5)-q.i) ⟨0,Nat.zero_le _⟩ [0,1] ?_ ?_
    ·repeat ((conv=>whnf);refine zb ?_)
     conv=>whnf
     exact zh (congrArg (fun x=>SV.agg [SV.arr64 5 x]) (show H.set 0 (g64 H 0+5)=(zcn G 0).1 by rw [hG];rfl))
    ·intro q
     have hi:=q.hi
     have hl:=zer G q.i
     have hI:((q.i:Int)).toNat=q.i:=Int.toNat_natCast _
     by_cases h4:q.i<5
     ·refine za ?_
      refine ⟨⟨q.i+1,h4⟩,[0,1],by show (5)-(q.i+1)<(5)-q.i;omega,?_⟩
      exact zt
     ·have e4:q.i=5:=by omega
      have hl5:=zer G 5
      rw [e4]
      obtain ⟨X,hX⟩: ∃X,X=if UInt64.ofNat 0<(zcn G 5).2 then (zcn G 5).1 else H:=⟨_,rfl⟩
      have hXl:X.length=5:=by rw [hX];split<;>omega
      by_cases h6:UInt64.ofNat 0<(zcn G 5).2
      ·rw [if_pos h6] at hX
       have d6:decide (UInt64.ofNat 0<(zcn G 5).2)=true:=decide_eq_true h6
       repeat ((conv=>whnf);first|refine zu ?_|refine zi ?_|refine zj ?_|refine zb ?_|refine zw (by first|exact d6|(rw [d6];rfl)) ?_|refine zo (by first|exact d6|(rw [d6];rfl)) ?_|refine zn (by first|exact d6|(rw [d6];rfl)) ?_)
       conv=>whnf
       refine zp (Ix (16)) (fun u=>⟨[(1,.str s),(2,.ptr 0 0 0 []),(8,.sl 1 0 0 [] 16 16),(9,.int (rts X s u.i).2),(10,.int u.i)],[.mk 167 [.arr64 5 X],.mk 5 [.arr8 16 (rts X s u.i).1]]⟩) (fun u=>(16)-u.i) ⟨0,Nat.zero_le _⟩ [0,2] ?_ ?_
       ·repeat ((conv=>whnf);refine zb ?_)
        conv=>whnf
        exact zh (congrArg (fun x=>SV.agg [SV.arr64 5 x]) hX.symm)
       ·intro u
        have hui:=u.hi
        have hU:((u.i:Int)).toNat=u.i:=Int.toNat_natCast _
        have hrl:=zid X s u.i
        have hrb:=ztj X s u.i
        by_cases h7:u.i<16
        ·refine za ?_
         refine zp (Ix (8)) (fun v=>⟨[(1,.str s),(2,.ptr 0 0 0 []),(8,.sl 1 0 0 [] 16 16),(9,.int (rts X s u.i).2),(10,.int u.i),(11,.int (rbv X u.i v.i)),(12,.int v.i)],[.mk 167 [.arr64 5 X],.mk 5 [.arr8 16 (rts X s u.i).1]]⟩) (fun v=>(8)-v.i) ⟨0,Nat.zero_le _⟩ [0,1] ?_ ?_
         ·exact zt
         ·intro v
          have hvi:=v.hi
          have hbv:=zk1 X u.i v.i
          by_cases h8:v.i<8
          ·have hq:(8*(u.i:Int)+(v.i:Int)).tdiv 26=(((8*u.i+v.i)/ 26:Nat):Int):=by rw [Int.tdiv_eq_ediv_of_nonneg (by omega)];omega
           have hm:(8*(u.i:Int)+(v.i:Int)).tmod 26=(((8*u.i+v.i)%26:Nat):Int):=by rw [Int.tmod_eq_emod_of_nonneg (by omega)];omega
           have hpd:(26:Int)≠0∧yb ((8*(u.i:Int)+(v.i:Int)).tdiv 26):=⟨by decide,by rw [hq];unfold yb;omega⟩
           have hw:(X.getD (off (ye [] ((8*(u.i:Int)+(v.i:Int)).tdiv 26).toNat xm.sz)) 0>>>UInt64.ofNat ((8*(u.i:Int)+(v.i:Int)).tmod 26).toNat&&&UInt64.ofNat 1).toNat=zge X (8*u.i+v.i):=by
             rw [hq,hm,Int.toNat_natCast,Int.toNat_natCast,yab _ (by omega)];rfl
           have hbi:zge X (8*u.i+v.i)≤1:=by unfold zge;omega
           have hpw:(X.getD (off (ye [] ((8*(u.i:Int)+(v.i:Int)).tdiv 26).toNat xm.sz)) 0>>>UInt64.ofNat ((8*(u.i:Int)+(v.i:Int)).tmod 26).toNat&&&UInt64.ofNat 1).toNat<9223372036854775808:=by rw [hw];omega
           have hpow:2^v.i≤2^7:=Nat.pow_le_pow_right (by decide) (by omega)
           have hpow0:0<2^v.i:=Nat.pow_pos (by decide)
           have hcm:zge X (8*u.i+v.i)*2^v.i≤1*2^7:=Nat.mul_le_mul hbi hpow
           have hec:((zge X (8*u.i+v.i):Nat):Int)*2^v.i=((zge X (8*u.i+v.i)*2^v.i:Nat):Int):=by rw [Int.natCast_mul,Int.natCast_pow];rfl
           have hsh:((v.i:Int)).toNat<64∧yb (((X.getD (off (ye [] ((8*(u.i:Int)+(v.i:Int)).tdiv 26).toNat xm.sz)) 0>>>UInt64.ofNat ((8*(u.i:Int)+(v.i:Int)).tmod 26).toNat&&&UInt64.ofNat 1).toNat:Int)*2^((v.i:Int)).toNat):=by
             rw [hw,Int.toNat_natCast,hec];unfold yb;omega
           have hor:zal .or (rbv X u.i v.i:Int) (((X.getD (off (ye [] ((8*(u.i:Int)+(v.i:Int)).tdiv 26).toNat xm.sz)) 0>>>UInt64.ofNat ((8*(u.i:Int)+(v.i:Int)).tmod 26).toNat&&&UInt64.ofNat 1).toNat:Int)*2^((v.i:Int)).toNat)=((rbv X u.i (v.i+1):Nat):Int):=by
             rw [hw,Int.toNat_natCast];exact Go.Sym.Ib.ibits_or_bit hbv hbi h8
           refine za ?_
           rw [hor]
           conv=>whnf
           refine ⟨⟨v.i+1,h8⟩,[0,1],by show (8)-(v.i+1)<(8)-v.i;omega,?_⟩
           exact zt
          ·have e8:v.i=8:=by omega
           have hbv8:rbv X u.i 8<256:=zk1 X u.i 8
           have hU2:(s.getD ((u.i:Int)).toNat 0).toNat<256:=(s.getD _ 0).toNat_lt
           have hpf:yb (((rts X s u.i).2:Int)+(rbv X u.i 8:Int)+((s.getD ((u.i:Int)).toNat 0).toNat:Int)):=by unfold yb;omega
           have hsu:(s.getD u.i 0).toNat<256:=(s.getD u.i 0).toNat_lt
           rw [e8]
           refine za ?_
           have hcc:UInt8.ofInt (zal BinOp.and (((rts X s u.i).2:Int)+(rbv X u.i 8:Int)+((s.getD ((u.i:Int)).toNat 0).toNat:Int)) 255)=UInt8.ofNat ((rts X s u.i).2+rbv X u.i 8+(s.getD u.i 0).toNat):=by
             rw [Go.Sym.Ib.u8_255 (by omega),hU]
             apply UInt8.toNat_inj.1
             have q1:=zb4 (((rts X s u.i).2:Int)+(rbv X u.i 8:Int)+((s.getD u.i 0).toNat:Int))
             rw [UInt8.toNat_ofNat']
             omega
           conv=>whnf
           refine ⟨⟨u.i+1,h7⟩,[0,1],by show (16)-(u.i+1)<(16)-u.i;omega,?_⟩
           repeat ((conv=>whnf);refine zb ?_)
           conv=>whnf
           exact zh (congrArg (fun x=>SV.agg [SV.arr8 16 x]) (show (rts X s u.i).1.set ((u.i:Int)).toNat _=(rts X s u.i).1.set u.i _ by rw [hcc];rfl))
        ·have e7:u.i=16:=by omega
         have hF:List.take 16 (List.drop (off []) (rts X s 16).1)=zpn x s:=by
           show List.take 16 (List.drop 0 _)=_
           rw [List.drop_zero,List.take_of_length_le (Nat.le_of_eq (zid _ _ _))]
           unfold zpn zg3
           rw [←hH,←hG,if_pos h6,←hX]
         rw [e7]
         refine za ?_
         conv=>whnf
         refine yv (hp':= []) [] h ?_
         repeat ((conv=>whnf);refine zb ?_)
         conv=>whnf
         exact zh (congrArg SV.str hF)
      ·rw [if_neg h6] at hX
       have d6:decide (UInt64.ofNat 0<(zcn G 5).2)=false:=decide_eq_false h6
       repeat ((conv=>whnf);first|refine zu ?_|refine zi ?_|refine zj ?_|refine zb ?_|refine zw (by first|exact d6|(rw [d6];rfl)) ?_|refine zo (by first|exact d6|(rw [d6];rfl)) ?_|refine zn (by first|exact d6|(rw [d6];rfl)) ?_)
       conv=>whnf
       refine zp (Ix (16)) (fun u=>⟨[(1,.str s),(2,.ptr 0 0 0 []),(8,.sl 1 0 0 [] 16 16),(9,.int (rts X s u.i).2),(10,.int u.i)],[.mk 167 [.arr64 5 X],.mk 5 [.arr8 16 (rts X s u.i).1]]⟩) (fun u=>(16)-u.i) ⟨0,Nat.zero_le _⟩ [0,2] ?_ ?_
       ·repeat ((conv=>whnf);refine zb ?_)
        conv=>whnf
        exact zh (congrArg (fun x=>SV.agg [SV.arr64 5 x]) hX.symm)
       ·intro u
        have hui:=u.hi
        have hU:((u.i:Int)).toNat=u.i:=Int.toNat_natCast _
        have hrl:=zid X s u.i
        have hrb:=ztj X s u.i
        by_cases h7:u.i<16
        ·refine za ?_
         refine zp (Ix (8)) (fun v=>⟨[(1,.str s),(2,.ptr 0 0 0 []),(8,.sl 1 0 0 [] 16 16),(9,.int (rts X s u.i).2),(10,.int u.i),(11,.int (rbv X u.i v.i)),(12,.int v.i)],[.mk 167 [.arr64 5 X],.mk 5 [.arr8 16 (rts X s u.i).1]]⟩) (fun v=>(8)-v.i) ⟨0,Nat.zero_le _⟩ [0,1] ?_ ?_
         ·exact zt
         ·intro v
          have hvi:=v.hi
          have hbv:=zk1 X u.i v.i
          by_cases h8:v.i<8
          ·have hq:(8*(u.i:Int)+(v.i:Int)).tdiv 26=(((8*u.i+v.i)/ 26:Nat):Int):=by rw [Int.tdiv_eq_ediv_of_nonneg (by omega)];omega
           have hm:(8*(u.i:Int)+(v.i:Int)).tmod 26=(((8*u.i+v.i)%26:Nat):Int):=by rw [Int.tmod_eq_emod_of_nonneg (by omega)];omega
           have hpd:(26:Int)≠0∧yb ((8*(u.i:Int)+(v.i:Int)).tdiv 26):=⟨by decide,by rw [hq];unfold yb;omega⟩
           have hw:(X.getD (off (ye [] ((8*(u.i:Int)+(v.i:Int)).tdiv 26).toNat xm.sz)) 0>>>UInt64.ofNat ((8*(u.i:Int)+(v.i:Int)).tmod 26).toNat&&&UInt64.ofNat 1).toNat=zge X (8*u.i+v.i):=by
             rw [hq,hm,Int.toNat_natCast,Int.toNat_natCast,yab _ (by omega)];rfl
           have hbi:zge X (8*u.i+v.i)≤1:=by unfold zge;omega
           have hpw:(X.getD (off (ye [] ((8*(u.i:Int)+(v.i:Int)).tdiv 26).toNat xm.sz)) 0>>>UInt64.ofNat ((8*(u.i:Int)+(v.i:Int)).tmod 26).toNat&&&UInt64.ofNat 1).toNat<9223372036854775808:=by rw [hw];omega
           have hpow:2^v.i≤2^7:=Nat.pow_le_pow_right (by decide) (by omega)
           have hpow0:0<2^v.i:=Nat.pow_pos (by decide)
           have hcm:zge X (8*u.i+v.i)*2^v.i≤1*2^7:=Nat.mul_le_mul hbi hpow
           have hec:((zge X (8*u.i+v.i):Nat):Int)*2^v.i=((zge X (8*u.i+v.i)*2^v.i:Nat):Int):=by rw [Int.natCast_mul,Int.natCast_pow];rfl
           have hsh:((v.i:Int)).toNat<64∧yb (((X.getD (off (ye [] ((8*(u.i:Int)+(v.i:Int)).tdiv 26).toNat xm.sz)) 0>>>UInt64.ofNat ((8*(u.i:Int)+(v.i:Int)).tmod 26).toNat&&&UInt64.ofNat 1).toNat:Int)*2^((v.i:Int)).toNat):=by
             rw [hw,Int.toNat_natCast,hec];unfold yb;omega
           have hor:zal .or (rbv X u.i v.i:Int) (((X.getD (off (ye [] ((8*(u.i:Int)+(v.i:Int)).tdiv 26).toNat xm.sz)) 0>>>UInt64.ofNat ((8*(u.i:Int)+(v.i:Int)).tmod 26).toNat&&&UInt64.ofNat 1).toNat:Int)*2^((v.i:Int)).toNat)=((rbv X u.i (v.i+1):Nat):Int):=by
             rw [hw,Int.toNat_natCast];exact Go.Sym.Ib.ibits_or_bit hbv hbi h8
           refine za ?_
           rw [hor]
           conv=>whnf
           refine ⟨⟨v.i+1,h8⟩,[0,1],by show (8)-(v.i+1)<(8)-v.i;omega,?_⟩
           exact zt
          ·have e8:v.i=8:=by omega
           have hbv8:rbv X u.i 8<256:=zk1 X u.i 8
           have hU2:(s.getD ((u.i:Int)).toNat 0).toNat<256:=(s.getD _ 0).toNat_lt
           have hpf:yb (((rts X s u.i).2:Int)+(rbv X u.i 8:Int)+((s.getD ((u.i:Int)).toNat 0).toNat:Int)):=by unfold yb;omega
           have hsu:(s.getD u.i 0).toNat<256:=(s.getD u.i 0).toNat_lt
           rw [e8]
           refine za ?_
           have hcc:UInt8.ofInt (zal BinOp.and (((rts X s u.i).2:Int)+(rbv X u.i 8:Int)+((s.getD ((u.i:Int)).toNat 0).toNat:Int)) 255)=UInt8.ofNat ((rts X s u.i).2+rbv X u.i 8+(s.getD u.i 0).toNat):=by
             rw [Go.Sym.Ib.u8_255 (by omega),hU]
             apply UInt8.toNat_inj.1
             have q1:=zb4 (((rts X s u.i).2:Int)+(rbv X u.i 8:Int)+((s.getD u.i 0).toNat:Int))
             rw [UInt8.toNat_ofNat']
             omega
           conv=>whnf
           refine ⟨⟨u.i+1,h7⟩,[0,1],by show (16)-(u.i+1)<(16)-u.i;omega,?_⟩
           repeat ((conv=>whnf);refine zb ?_)
           conv=>whnf
           exact zh (congrArg (fun x=>SV.agg [SV.arr8 16 x]) (show (rts X s u.i).1.set ((u.i:Int)).toNat _=(rts X s u.i).1.set u.i _ by rw [hcc];rfl))
        ·have e7:u.i=16:=by omega
         have hF:List.take 16 (List.drop (off []) (rts X s 16).1)=zpn x s:=by
           show List.take 16 (List.drop 0 _)=_
           rw [List.drop_zero,List.take_of_length_le (Nat.le_of_eq (zid _ _ _))]
           unfold zpn zg3
           rw [←hH,←hG,if_neg h6,←hX]
         rw [e7]
         refine za ?_
         conv=>whnf
         refine yv (hp':= []) [] h ?_
         repeat ((conv=>whnf);refine zb ?_)
         conv=>whnf
         exact zh (congrArg SV.str hF)
   ·exact h.elim
end Go.Sym.Z

namespace Go.Sym.Pol
def xx (P:Nat→Bool):Nat→List UInt64
  |0=> [0,0,0,0,0]
  |i+1=>if P i=true then (xx P i).set (i/ 26) (g64 (xx P i) (i/ 26)|||UInt64.ofNat 1<<<UInt64.ofNat (i%26)) else xx P i
theorem zbj (P:Nat→Bool): ∀i,(xx P i).length=5
  |0=>rfl
  |i+1=>by simp only [xx];split<;>simp [zbj P i]
theorem zkq {P:Nat→Bool} {i:Nat} (h:P i=true):xx P (i+1)=(xx P i).set (i/ 26) (g64 (xx P i) (i/ 26)|||UInt64.ofNat 1<<<UInt64.ofNat (i%26)):=by simp only [xx];rw [if_pos h]
theorem zng {P:Nat→Bool} {i:Nat} (h:P i=false):xx P (i+1)=xx P i:=by simp only [xx];rw [if_neg (by rw [h];decide)]
def zu6:List UInt8:= [255,255,255,15,252,255,255,15,252,255,255,15,252,255,255,15]
def zad (key:List UInt8) (i:Nat):Bool:=decide ((key.getD (i/ 8) 0&&&zu6.getD (i/ 8) 0)>>>UInt8.ofNat (i%8)&&&UInt8.ofNat 1=UInt8.ofNat 1)
def zci (s:List UInt8) (at' i:Nat):Bool:=decide (s.getD (at'+i/ 8) 0>>>UInt8.ofNat (i%8)&&&UInt8.ofNat 1=UInt8.ofNat 1)
def zpg (s:List UInt8) (at' n:Nat):List UInt64:=
  (xx (zci s at') (8*n)).set (8*n/ 26) (g64 (xx (zci s at') (8*n)) (8*n/ 26)|||UInt64.ofNat 1<<<UInt64.ofNat (8*n%26))
theorem zgt (s:List UInt8) (at' n:Nat):(zpg s at' n).length=5:=by unfold zpg;rw [List.length_set];exact zbj _ _
def zg7 (x y:List UInt64):Nat→List UInt64
  |0=>x
  |i+1=>(zg7 x y i).set i (g64 (zg7 x y i) i+g64 y i)
theorem zny (x y:List UInt64): ∀i,(zg7 x y i).length=x.length
  |0=>rfl
  |i+1=>by simp only [zg7,List.length_set];exact zny x y i
def zdu (key s:List UInt8):Nat→List UInt64
  |0=> [0,0,0,0,0]
  |t+1=>zb7 (zg7 (zdu key s t) (zpg s (16*t) (min 16 (s.length-16*t))) 5) (xx (zad key) 128)
theorem zmw (key s:List UInt8): ∀t,(zdu key s t).length=5
  |0=>rfl
  |_+1=>zwg _ _
def zii (key s:List UInt8):List UInt8:=zpn (zdu key s ((s.length+15)/ 16)) (key.drop 16)
end Go.Sym.Pol
namespace Go.Sym.Pol
def yav (s:List UInt8):Nat→List UInt64
  |0=> [0,0,0,0,0]
  |t+1=>zpg s (16*t) (min 16 (s.length-16*t))
theorem z5a (s:List UInt8): ∀t,(yav s t).length=5
  |0=>rfl
  |_+1=>zgt _ _ _
end Go.Sym.Pol

namespace Go.Sym.Z
open Go Go.Proofs.Tryz Go.Sym.Lp Go.Sym.Pol Go.Sym.Cha
set_option maxRecDepth 100000
attribute [local irreducible] yt xl blk xq rcd zb7 zpn xx zdu zg7
def zxz:Spec:=fun args hp K=>match args,hp with
  | [.str key,.str s],[]=>Pre (key.length=32∧s.length≤1000000) (K (.str (zii key s)) [])
  |_,_=>False
set_option maxHeartbeats 8000000 in
theorem z92:zm prog 103 zxz:=by
  refine zk xa (zc zwv (zc z0g zg)) rfl func103 rfl call103 (D:=yeh) ?_ ?_
  ·intro args hp K h
   unfold zxz at h
   split at h
   ·exact Nat.le_of_ble_eq_true rfl
   ·exact h.elim
  ·intro args hp K h
   unfold zxz at h
   split at h
   ·rename_i key s
    obtain ⟨⟨hk,hs⟩,h⟩:=zl h
    have hml:zu6.length=16:=rfl
    refine za ?_
    refine zp (Ix (128)) (fun q=>⟨[(0,.str key),(1,.str s),(5,.ptr 0 0 0 []),(6,.ptr 1 0 0 []),(7,.ptr 2 0 0 []),(8,.ptr 3 0 0 []),(9,.int q.i)],[.mk 167 [.arr64 5 (xx (zad key) q.i)],.mk 167 [.arr64 5 [0,0,0,0,0]],.mk 167 [.arr64 5 [0,0,0,0,0]],.mk 168 [.arr8 16 zu6]]⟩) (fun q=>(128)-q.i) ⟨0,Nat.zero_le _⟩ [0,1,2,3] ?_ ?_
    ·repeat ((conv=>whnf);refine zb ?_)
     conv=>whnf
     exact zh (congrArg (fun x=>SV.agg [SV.arr64 5 x]) (show [0,0,0,0,0]=xx (zad key) 0 by unfold xx;rfl))
    ·intro q
     have hi:=q.hi
     have hl:=zbj (zad key) q.i
     by_cases h4:q.i<128
     ·have hm8:(q.i:Int).tmod 8=((q.i%8:Nat):Int):=by rw [Int.tmod_eq_emod_of_nonneg (by omega)];omega
      have hd8:(q.i:Int).tdiv 8=((q.i/ 8:Nat):Int):=by rw [Int.tdiv_eq_ediv_of_nonneg (by omega)];omega
      have hm26:(q.i:Int).tmod 26=((q.i%26:Nat):Int):=by rw [Int.tmod_eq_emod_of_nonneg (by omega)];omega
      have hd26:(q.i:Int).tdiv 26=((q.i/ 26:Nat):Int):=by rw [Int.tdiv_eq_ediv_of_nonneg (by omega)];omega
      have hp8:(8:Int)≠0∧yb ((q.i:Int).tdiv 8):=⟨by decide,by rw [hd8];unfold yb;omega⟩
      have hp26:(26:Int)≠0∧yb ((q.i:Int).tdiv 26):=⟨by decide,by rw [hd26];unfold yb;omega⟩
      have hcd:decide ((key.getD ((q.i:Int).tdiv 8).toNat 0&&&zu6.getD (off (ye [] ((q.i:Int).tdiv 8).toNat ty5.sz)) 0)>>>UInt8.ofNat ((q.i:Int).tmod 8).toNat&&&UInt8.ofNat 1=UInt8.ofNat 1)=zad key q.i:=by
        rw [hd8,hm8,Int.toNat_natCast,Int.toNat_natCast];rfl
      have hI:((q.i:Int).tdiv 26).toNat=q.i/ 26:=by omega
      by_cases hb:zad key q.i=true
      ·rw [hb] at hcd
       have hn:=zkq hb
       repeat ((conv=>whnf);first|refine zu ?_|refine zi ?_|refine zj ?_|refine zb ?_|refine zw (by first|exact hcd|(rw [hcd];rfl)) ?_|refine zo (by first|exact hcd|(rw [hcd];rfl)) ?_|refine zn (by first|exact hcd|(rw [hcd];rfl)) ?_)
       conv=>whnf
       rw [hm26,Int.toNat_natCast,hI]
       conv=>whnf
       refine ⟨⟨q.i+1,h4⟩,[0,1,2,3],by show (128)-(q.i+1)<(128)-q.i;omega,?_⟩
       repeat ((conv=>whnf);refine zb ?_)
       conv=>whnf
       exact zh (congrArg (fun x=>SV.agg [SV.arr64 5 x]) hn.symm)
      ·have hb2:zad key q.i=false:=by cases hh:zad key q.i with|true=>exact absurd hh hb|false=>rfl
       rw [hb2] at hcd
       have hn:=zng hb2
       repeat ((conv=>whnf);first|refine zu ?_|refine zi ?_|refine zj ?_|refine zb ?_|refine zw (by first|exact hcd|(rw [hcd];rfl)) ?_|refine zo (by first|exact hcd|(rw [hcd];rfl)) ?_|refine zn (by first|exact hcd|(rw [hcd];rfl)) ?_)
       conv=>whnf
       refine ⟨⟨q.i+1,h4⟩,[0,1,2,3],by show (128)-(q.i+1)<(128)-q.i;omega,?_⟩
       repeat ((conv=>whnf);refine zb ?_)
       conv=>whnf
       exact zh (congrArg (fun x=>SV.agg [SV.arr64 5 x]) hn.symm)
     ·have e4:q.i=128:=by omega
      rw [e4]
      obtain ⟨R,hR⟩: ∃R,R=xx (zad key) 128:=⟨_,rfl⟩
      have hRl:R.length=5:=by rw [hR];exact zbj _ _
      rw [←hR]
      refine za ?_
      refine zp (Ix (((s.length+15)/ 16))) (fun t=>⟨[(0,.str key),(1,.str s),(5,.ptr 0 0 0 []),(6,.ptr 1 0 0 []),(7,.ptr 2 0 0 []),(10,.int (16*(t.i:Int)))],[.mk 167 [.arr64 5 R],.mk 167 [.arr64 5 (zdu key s t.i)],.mk 167 [.arr64 5 (yav s t.i)]]⟩) (fun t=>(((s.length+15)/ 16))-t.i) ⟨0,Nat.zero_le _⟩ [0,1,2] ?_ ?_
      ·repeat ((conv=>whnf);refine zb ?_)
       conv=>whnf
       exact zh (congrArg (fun x=>SV.agg [SV.arr64 5 x]) (show [0,0,0,0,0]=zdu key s 0 by unfold zdu;rfl))
      ·intro t
       have hti:=t.hi
       have hal:=zmw key s t.i
       have hwl:=z5a s t.i
       by_cases h5:16*t.i<s.length
       ·obtain ⟨n,hn⟩: ∃n,n=min 16 (s.length-16*t.i):=⟨_,rfl⟩
        have hn0:0<n:=by omega
        have hn16:n≤16:=by omega
        have hns:16*t.i+n≤s.length:=by omega
        have hmin:min (16*(t.i:Int)+16) (s.length:Int)=((16*t.i+n:Nat):Int):=by omega
        refine za ?_
        rw [hmin]
        refine zp (Ix ((8*n))) (fun b=>⟨[(0,.str key),(1,.str s),(5,.ptr 0 0 0 []),(6,.ptr 1 0 0 []),(7,.ptr 2 0 0 []),(10,.int (16*(t.i:Int))),(11,.int ((16*t.i+n:Nat):Int)),(12,.int b.i)],[.mk 167 [.arr64 5 R],.mk 167 [.arr64 5 (zdu key s t.i)],.mk 167 [.arr64 5 (xx (zci s (16*t.i)) b.i)]]⟩) (fun b=>((8*n))-b.i) ⟨0,Nat.zero_le _⟩ [0,1,2] ?_ ?_
        ·repeat ((conv=>whnf);refine zb ?_)
         conv=>whnf
         exact zh (congrArg (fun x=>SV.agg [SV.arr64 5 x]) (show [0,0,0,0,0]=xx (zci s (16*t.i)) 0 by unfold xx;rfl))
        ·intro b
         have hbi:=b.hi
         have hbl:=zbj (zci s (16*t.i)) b.i
         by_cases h6:b.i<8*n
         ·have hm8:(b.i:Int).tmod 8=((b.i%8:Nat):Int):=by rw [Int.tmod_eq_emod_of_nonneg (by omega)];omega
          have hd8:(b.i:Int).tdiv 8=((b.i/ 8:Nat):Int):=by rw [Int.tdiv_eq_ediv_of_nonneg (by omega)];omega
          have hm26:(b.i:Int).tmod 26=((b.i%26:Nat):Int):=by rw [Int.tmod_eq_emod_of_nonneg (by omega)];omega
          have hd26:(b.i:Int).tdiv 26=((b.i/ 26:Nat):Int):=by rw [Int.tdiv_eq_ediv_of_nonneg (by omega)];omega
          have hp8:(8:Int)≠0∧yb ((b.i:Int).tdiv 8):=⟨by decide,by rw [hd8];unfold yb;omega⟩
          have hp26:(26:Int)≠0∧yb ((b.i:Int).tdiv 26):=⟨by decide,by rw [hd26];unfold yb;omega⟩
          have hI:((b.i:Int).tdiv 26).toNat=b.i/ 26:=by omega
          have hA:(16*(t.i:Int)+(b.i:Int).tdiv 8).toNat=16*t.i+b.i/ 8:=by omega
          have hcd:decide (s.getD (16*(t.i:Int)+(b.i:Int).tdiv 8).toNat 0>>>UInt8.ofNat ((b.i:Int).tmod 8).toNat&&&UInt8.ofNat 1=UInt8.ofNat 1)=zci s (16*t.i) b.i:=by
            rw [hA,hm8,Int.toNat_natCast];rfl
          by_cases hb:zci s (16*t.i) b.i=true
          ·rw [hb] at hcd
           have hnx:=zkq hb
           repeat ((conv=>whnf);first|refine zu ?_|refine zi ?_|refine zj ?_|refine zb ?_|refine zw (by first|exact hcd|(rw [hcd];rfl)) ?_|refine zo (by first|exact hcd|(rw [hcd];rfl)) ?_|refine zn (by first|exact hcd|(rw [hcd];rfl)) ?_)
           conv=>whnf
           rw [hm26,Int.toNat_natCast,hI]
           conv=>whnf
           refine ⟨⟨b.i+1,h6⟩,[0,1,2],by show ((8*n))-(b.i+1)<((8*n))-b.i;omega,?_⟩
           repeat ((conv=>whnf);refine zb ?_)
           conv=>whnf
           exact zh (congrArg (fun x=>SV.agg [SV.arr64 5 x]) hnx.symm)
          ·have hb2:zci s (16*t.i) b.i=false:=by cases hh:zci s (16*t.i) b.i with|true=>exact absurd hh hb|false=>rfl
           rw [hb2] at hcd
           have hnx:=zng hb2
           repeat ((conv=>whnf);first|refine zu ?_|refine zi ?_|refine zj ?_|refine zb ?_|refine zw (by first|exact hcd|(rw [hcd];rfl)) ?_|refine zo (by first|exact hcd|(rw [hcd];rfl)) ?_|refine zn (by first|exact hcd|(rw [hcd];rfl)) ?_)
           conv=>whnf
           refine ⟨⟨b.i+1,h6⟩,[0,1,2],by show ((8*n))-(b.i+1)<((8*n))-b.i;omega,?_⟩
           repeat ((conv=>whnf);refine zb ?_)
           conv=>whnf
           exact zh (congrArg (fun x=>SV.agg [SV.arr64 5 x]) hnx.symm)
         ·have e6:b.i=8*n:=by omega
          have hbl8:=zbj (zci s (16*t.i)) (8*n)
          have hJ:(8*(((16*t.i+n:Nat):Int)-16*(t.i:Int)))=((8*n:Nat):Int):=by omega
          have hm26:(8*(((16*t.i+n:Nat):Int)-16*(t.i:Int))).tmod 26=((8*n%26:Nat):Int):=by rw [hJ,Int.tmod_eq_emod_of_nonneg (by omega)];omega
          have hd26:(8*(((16*t.i+n:Nat):Int)-16*(t.i:Int))).tdiv 26=((8*n/ 26:Nat):Int):=by rw [hJ,Int.tdiv_eq_ediv_of_nonneg (by omega)];omega
          have hp26:(26:Int)≠0∧yb ((8*(((16*t.i+n:Nat):Int)-16*(t.i:Int))).tdiv 26):=⟨by decide,by rw [hd26];unfold yb;omega⟩
          have hI:((8*(((16*t.i+n:Nat):Int)-16*(t.i:Int))).tdiv 26).toNat=8*n/ 26:=by omega
          obtain ⟨L,hL⟩: ∃L,L=zpg s (16*t.i) n:=⟨_,rfl⟩
          have hLl:L.length=5:=by rw [hL];exact zgt _ _ _
          have hLw:yav s (t.i+1)=L:=by rw [hL,hn];rfl
          rw [e6]
          refine za ?_
          rw [hm26,Int.toNat_natCast,hI]
          refine zp (Ix (5)) (fun a=>⟨[(0,.str key),(1,.str s),(5,.ptr 0 0 0 []),(6,.ptr 1 0 0 []),(7,.ptr 2 0 0 []),(10,.int (16*(t.i:Int))),(14,.int a.i)],[.mk 167 [.arr64 5 R],.mk 167 [.arr64 5 (zg7 (zdu key s t.i) L a.i)],.mk 167 [.arr64 5 L]]⟩) (fun a=>(5)-a.i) ⟨0,Nat.zero_le _⟩ [0,1,2] ?_ ?_
          ·repeat ((conv=>whnf);refine zb ?_)
           conv=>whnf
           refine zq (congrArg (fun x=>SV.agg [SV.arr64 5 x]) (show zdu key s t.i=zg7 (zdu key s t.i) L 0 by unfold zg7;rfl)) ?_
           repeat ((conv=>whnf);refine zb ?_)
           conv=>whnf
           exact zh (congrArg (fun x=>SV.agg [SV.arr64 5 x]) (show _=L by rw [hL];unfold zpg;rfl))
          ·intro a
           have hai:=a.hi
           have had:=zny (zdu key s t.i) L a.i
           by_cases h7:a.i<5
           ·refine za ?_
            refine ⟨⟨a.i+1,h7⟩,[0,1,2],by show (5)-(a.i+1)<(5)-a.i;omega,?_⟩
            repeat ((conv=>whnf);refine zb ?_)
            conv=>whnf
            exact zh (congrArg (fun x=>SV.agg [SV.arr64 5 x]) (show (zg7 (zdu key s t.i) L a.i).set ((a.i:Int)).toNat (g64 (zg7 (zdu key s t.i) L a.i) ((a.i:Int)).toNat+g64 L ((a.i:Int)).toNat)=zg7 (zdu key s t.i) L (a.i+1) by rw [Int.toNat_natCast];conv=>rhs;unfold zg7))
           ·have e7:a.i=5:=by omega
            have had5:(zg7 (zdu key s t.i) L 5).length=5:=by rw [zny];exact hal
            have hT:t.i<(s.length+15)/ 16:=by omega
            have hra:zb7 (zg7 (zdu key s t.i) L 5) R=zdu key s (t.i+1):=by
              conv=>rhs;unfold zdu
              rw [hL,hR,hn]
            rw [e7]
            refine za ?_
            refine ⟨⟨t.i+1,hT⟩,[0,1,2],by show (((s.length+15)/ 16))-(t.i+1)<(((s.length+15)/ 16))-t.i;omega,?_⟩
            repeat ((conv=>whnf);refine zb ?_)
            conv=>whnf
            refine zq (congrArg (fun x=>SV.agg [SV.arr64 5 x]) hra) ?_
            repeat ((conv=>whnf);refine zb ?_)
            conv=>whnf
            exact zh (congrArg (fun x=>SV.agg [SV.arr64 5 x]) hLw.symm)
       ·have e5:t.i=(s.length+15)/ 16:=by omega
        refine za ?_
        conv=>whnf
        refine yv (hp':= []) [] h ?_
        repeat ((conv=>whnf);refine zb ?_)
        conv=>whnf
        exact zh (congrArg SV.str (show zpn (zdu key s t.i) (List.drop 16 key)=zii key s by unfold zii;rw [e5]))
   ·exact h.elim
end Go.Sym.Z

namespace Go.Sym.Z
open Go Go.Proofs.Tryz Go.Sym.Lp Go.Sym.Pol Go.Sym.Cha
set_option maxRecDepth 100000
attribute [local irreducible] xl blk zii fillB zb1
def yhe:List (Nat×List PStep):= [(1,[⟨0,[]⟩,⟨1,[0]⟩,⟨4,[0,1]⟩,⟨6,[0,1,4]⟩,⟨9,[0,1,4,6]⟩,⟨10,[0,1,4,6]⟩,⟨13,[0,1,4,6,9,10]⟩,⟨14,[0,1,4,6,9,10]⟩,⟨2,[4,6,9,10,13,14]⟩,⟨3,[4,6,9,10,13,14]⟩,⟨5,[6,9,10,13,14,3]⟩,⟨7,[9,10,13,14,3]⟩,⟨8,[9,10,13,14,3]⟩,⟨11,[13,14,3,8]⟩,⟨12,[13,14,3]⟩,⟨15,[3,8,12]⟩,⟨16,[3]⟩,⟨17,[]⟩,⟨18,[]⟩])]
def yie:List (Nat×List PStep):= []
def zfs (key nonce aad c:List UInt8):List UInt8:=
  zii ((blk key nonce 0).take 32) (aad++fillB aad.length++(c++fillB c.length)++zb1 aad.length++zb1 c.length)
def zxl:Spec:=fun args hp K=>match args,hp with
  | [.str key,.str nonce,.str aad,.str c],[]=>Pre (key.length=32∧nonce.length=12∧aad.length≤65536∧c.length≤65536) (K (.str (zfs key nonce aad c)) [])
  |_,_=>False
theorem z7k:zm prog 75 zxl:=by
  refine zk xa (zc zqq (zc zpr (zc z1i (zc z92 zg)))) rfl func75 rfl call75 (D:=yhe) ?_ ?_
  ·intro args hp K h
   unfold zxl at h
   split at h
   ·exact Nat.le_of_ble_eq_true rfl
   ·exact h.elim
  ·intro args hp K h
   unfold zxl at h
   split at h
   ·rename_i key nonce aad c
    obtain ⟨⟨hk,hn,ha,hc⟩,h⟩:=zl h
    have hbl:=zfm key nonce (UInt32.ofNat 0)
    have hfa:=zbv aad.length
    have hfc:=zbv c.length
    have h8a:=zc6 aad.length
    have h8c:=zc6 c.length
    have hA:((aad.length:Int)).toNat=aad.length:=Int.toNat_natCast _
    have hC:((c.length:Int)).toNat=c.length:=Int.toNat_natCast _
    have hG:zfs key nonce aad c=zii (List.take (Int.toNat 32) (blk key nonce (UInt32.ofNat 0))) (aad++fillB aad.length++(c++fillB c.length)++zb1 ((aad.length:Int)).toNat++zb1 ((c.length:Int)).toNat):=by unfold zfs;rw [hA,hC];rfl
    rw [hG] at h
    have h8a2:(zb1 ((aad.length:Int)).toNat).length=8:=zc6 _
    have h8c2:(zb1 ((c.length:Int)).toNat).length=8:=zc6 _
    have hq1:(aad++fillB aad.length++(c++fillB c.length)).length≤140000:=by
      rw [List.length_append,List.length_append,List.length_append];omega
    have hq2:(aad++fillB aad.length++(c++fillB c.length)++zb1 ((aad.length:Int)).toNat).length≤140008:=by
      rw [List.length_append];omega
    have hq3:(aad++fillB aad.length++(c++fillB c.length)++zb1 ((aad.length:Int)).toNat++zb1 ((c.length:Int)).toNat).length≤140016:=by
      rw [List.length_append];omega
    refine za ?_
    conv=>whnf
    exact ze [] h
   ·exact h.elim
def zkv (key nonce aad s:List UInt8):List UInt8:=
  xl key nonce 1 s++zfs key nonce aad (xl key nonce 1 s)
theorem z1m (key nonce aad b:List UInt8):(zfs key nonce aad b).length=16:=by
  unfold zfs zii zpn
  exact zid _ _ _
attribute [local irreducible] zfs
def zj6:Spec:=fun args hp K=>match args,hp with
  | [.str key,.str nonce,.str aad,.str s],[]=>
      if key.length=32∧nonce.length=12∧aad.length≤65536∧(s.length:Int)≤65536 then
       K (.tup [.str (zkv key nonce aad s),.int 0]) []
      else K (.tup [.str [],.int 700]) []
  |_,_=>False
theorem z6m:zm prog 55 zj6:=by
  refine zk xa (zc z0r (zc z7k zg)) rfl func55 rfl call55 (D:=yie) ?_ ?_
  ·intro args hp K h
   unfold zj6 at h
   split at h
   ·exact Nat.le_of_ble_eq_true rfl
   ·exact h.elim
  ·intro args hp K h
   unfold zj6 at h
   split at h
   ·rename_i key nonce aad s
    by_cases h1:key.length=32
    ·by_cases h2:nonce.length=12
     ·by_cases h3:aad.length≤65536
      ·by_cases h4:(s.length:Int)≤65536
       ·rw [if_pos ⟨h1,h2,h3,h4⟩] at h
        have hsl:s.length≤65536:=by omega
        have hst:=zgv key nonce 1 s
        have hst2:(xl key nonce (UInt32.ofNat 1) s).length=s.length:=hst
        have htl:(zfs key nonce aad (xl key nonce (UInt32.ofNat 1) s)).length=16:=z1m _ _ _ _
        have hpt:key.length=32∧nonce.length=12∧aad.length≤65536∧(xl key nonce (UInt32.ofNat 1) s).length≤65536:=⟨h1,h2,h3,by omega⟩
        have hG:zkv key nonce aad s=xl key nonce (UInt32.ofNat 1) s++zfs key nonce aad (xl key nonce (UInt32.ofNat 1) s):=by unfold zkv;rfl
        rw [hG] at h
        refine za ?_
        conv=>whnf
        exact ze [] h
       ·rw [if_neg fun hh=>h4 hh.2.2.2] at h
        refine za ?_
        exact ze [] h
      ·rw [if_neg fun hh=>h3 hh.2.2.1] at h
       refine za ?_
       exact ze [] h
     ·rw [if_neg fun hh=>h2 hh.2.1] at h
      refine za ?_
      exact ze [] h
    ·rw [if_neg fun hh=>h1 hh.1] at h
     refine za ?_
     exact ze [] h
   ·exact h.elim
end Go.Sym.Z

namespace Go.Sym.Pol
open Go.Sym.Lp
theorem zl6 {x:List UInt64} (h:x.length=5) {B:Nat} (hB:B≤1152921504606846976) (hb: ∀i,i<5→(g64 x i).toNat≤B):
    ∃k,ws x=ws (rcd x)+k*pP∧(rcd x).length=5∧(g64 (rcd x) 0).toNat≤67108863+5*(B/ 67108864+B/ 67108864/ 33554432+1)∧(∀i,0<i→i<5→(g64 (rcd x) i).toNat<67108864):=by
  obtain ⟨a,b,c,d,e,rfl⟩:=zd5 h
  have ha:a.toNat≤B:=hb 0 (by decide)
  have hb':b.toNat≤B:=hb 1 (by decide)
  have hc:c.toNat≤B:=hb 2 (by decide)
  have hd:d.toNat≤B:=hb 3 (by decide)
  have he:e.toNat≤B:=hb 4 (by decide)
  rw [z47]
  simp only
  have e0:(a+0).toNat=a.toNat:=xn (by show a.toNat+0<_;omega)
  generalize a+0=a' at*
  have s0:=zca a'
  have n0:=za1 a'
  generalize a'>>>(26:UInt64)=c0 at*
  generalize a'&&&M26=a0 at*
  have e1:(b+c0).toNat=b.toNat+c0.toNat:=xn (by omega)
  generalize b+c0=b1 at*
  have s1:=zca b1
  have n1:=za1 b1
  generalize b1>>>(26:UInt64)=c1 at*
  have e2:(c+c1).toNat=c.toNat+c1.toNat:=xn (by omega)
  generalize c+c1=c' at*
  have s2:=zca c'
  have n2:=za1 c'
  generalize c'>>>(26:UInt64)=c2 at*
  have e3:(d+c2).toNat=d.toNat+c2.toNat:=xn (by omega)
  generalize d+c2=d' at*
  have s3:=zca d'
  have n3:=za1 d'
  generalize d'>>>(26:UInt64)=c3 at*
  have e4:(e+c3).toNat=e.toNat+c3.toNat:=xn (by omega)
  generalize e+c3=e' at*
  have s4:=zca e'
  have n4:=za1 e'
  generalize e'>>>(26:UInt64)=c4 at*
  have m5:(5*c4).toNat=5*c4.toNat:=z1j (by show 5*c4.toNat<_;omega)
  have e5:(a0+5*c4).toNat=a0.toNat+5*c4.toNat:=by rw [xn (by omega),m5]
  refine ⟨c4.toNat,?_,rfl,?_,?_⟩
  ·simp only [ws]
   rw [e5,n1,n2,n3,n4]
   unfold pP
   omega
  ·show (a0+5*c4).toNat≤_
   rw [e5];omega
  ·intro i h0 hi
   have:i=1∨i=2∨i=3∨i=4:=by omega
   rcases this with rfl|rfl|rfl|rfl
   ·show (b1&&&M26).toNat<_;omega
   ·show (c'&&&M26).toNat<_;omega
   ·show (d'&&&M26).toNat<_;omega
   ·show (e'&&&M26).toNat<_;omega
end Go.Sym.Pol
namespace Go.Sym.Pol
theorem zog {x r:List UInt64} (hx:x.length=5) (hr:r.length=5) (bx: ∀i,i<5→(g64 x i).toNat<268435456) (br: ∀i,i<5→(g64 r i).toNat<67108864):
    (∃k,ws x*ws r=ws (zb7 x r)+k*pP)∧ ∀i,i<5→(g64 (zb7 x r) i).toNat<134217728:=by
  obtain ⟨⟨k1,e1⟩,hb⟩:=z57 hx hr bx br
  obtain ⟨k2,e2,l2,a2,b2⟩:=zl6 (zbo x r 25) (B:=1152921504606846976) (Nat.le_refl _) (fun i hi=>Nat.le_of_lt (hb i hi))
  have a2':(g64 (rcd (xq x r 25)) 0).toNat≤100000000000:=by omega
  obtain ⟨k3,e3,l3,a3,b3⟩:=zl6 l2 (B:=100000000000) (by omega) (fun i hi=>by
    by_cases h0:i=0
    ·rw [h0];exact a2'
    ·have:=b2 i (by omega) hi;omega)
  refine ⟨⟨k1+k2+k3,?_⟩,?_⟩
  ·unfold zb7
   rw [e1,e2,e3,Nat.add_mul,Nat.add_mul]
   omega
  ·intro i hi
   unfold zb7
   by_cases h0:i=0
   ·rw [h0];omega
   ·have:=b3 i (by omega) hi;omega
theorem zqr {x r:List UInt64} (hx:x.length=5) (hr:r.length=5) (bx: ∀i,i<5→(g64 x i).toNat<268435456) (br: ∀i,i<5→(g64 r i).toNat<67108864):
    (∃k,ws x*ws r=ws (zgs x r)+k*pP)∧ ∀i,i<5→(g64 (zgs x r) i).toNat<134217728:=by
  obtain ⟨⟨k1,e1⟩,hb⟩:=z57 hx hr bx br
  obtain ⟨k2,e2,l2,b2,_⟩:=zy9 (zbo x r 25) hb
  refine ⟨⟨k1+k2,?_⟩,?_⟩
  ·unfold zgs
   rw [e1,e2,Nat.add_mul]
   omega
  ·intro i hi
   unfold zgs
   have:=b2 i hi
   omega
end Go.Sym.Pol
namespace Go.Sym.Pol
theorem zje {x y:List UInt64} (hx:x.length=5) (hy:y.length=5) (bx: ∀i,i<5→(g64 x i).toNat<134217728) (bz: ∀i,i<5→(g64 y i).toNat<67108864):
    ws (zjl x y)=ws x+ws y∧ ∀i,i<5→(g64 (zjl x y) i).toNat<268435456:=by
  obtain ⟨a,b,c,d,e,rfl⟩:=zd5 hx
  obtain ⟨r,s,t,u,v,rfl⟩:=zd5 hy
  have ha:a.toNat<134217728:=bx 0 (by decide)
  have hb:b.toNat<134217728:=bx 1 (by decide)
  have hc:c.toNat<134217728:=bx 2 (by decide)
  have hd:d.toNat<134217728:=bx 3 (by decide)
  have he:e.toNat<134217728:=bx 4 (by decide)
  have hr:r.toNat<67108864:=bz 0 (by decide)
  have hs:s.toNat<67108864:=bz 1 (by decide)
  have ht:t.toNat<67108864:=bz 2 (by decide)
  have hu:u.toNat<67108864:=bz 3 (by decide)
  have hv:v.toNat<67108864:=bz 4 (by decide)
  have e1:(a+r).toNat=a.toNat+r.toNat:=xn (by omega)
  have e2:(b+s).toNat=b.toNat+s.toNat:=xn (by omega)
  have e3:(c+t).toNat=c.toNat+t.toNat:=xn (by omega)
  have e4:(d+u).toNat=d.toNat+u.toNat:=xn (by omega)
  have e5:(e+v).toNat=e.toNat+v.toNat:=xn (by omega)
  have ea:zjl [a,b,c,d,e] [r,s,t,u,v]= [a+r,b+s,c+t,d+u,e+v]:=rfl
  rw [ea]
  refine ⟨?_,?_⟩
  ·simp only [ws]
   rw [e1,e2,e3,e4,e5]
   omega
  ·intro i hi
   have:i=0∨i=1∨i=2∨i=3∨i=4:=by omega
   rcases this with rfl|rfl|rfl|rfl|rfl
   ·show (a+r).toNat<_;omega
   ·show (b+s).toNat<_;omega
   ·show (c+t).toNat<_;omega
   ·show (d+u).toNat<_;omega
   ·show (e+v).toNat<_;omega
theorem zq2 {x y:List UInt64} (hx:x.length=5) (hy:y.length=5):zg7 x y 5=zjl x y:=by
  obtain ⟨a,b,c,d,e,rfl⟩:=zd5 hx
  obtain ⟨r,s,t,u,v,rfl⟩:=zd5 hy
  rfl
theorem z1u {x y r m n:List UInt64} (hx:x.length=5) (hy:y.length=5) (hr:r.length=5) (hm:m.length=5) (hn:n.length=5)
    (bx: ∀i,i<5→(g64 x i).toNat<134217728) (bz: ∀i,i<5→(g64 y i).toNat<134217728) (br: ∀i,i<5→(g64 r i).toNat<67108864)
    (bm: ∀i,i<5→(g64 m i).toNat<67108864) (bn: ∀i,i<5→(g64 n i).toNat<67108864) (e:ws x%pP=ws y%pP) (em:ws m=ws n):
    ws (zgs (zjl x m) r)%pP=ws (zb7 (zg7 y n 5) r)%pP:=by
  obtain ⟨v1,b1⟩:=zje hx hm bx bm
  obtain ⟨v2,b2⟩:=zje hy hn bz bn
  rw [zq2 hy hn]
  obtain ⟨⟨k1,q1⟩,_⟩:=zqr (zgx x m) hr b1 br
  obtain ⟨⟨k2,q2⟩,_⟩:=zog (zgx y n) hr b2 br
  have f1:ws (zgs (zjl x m) r)%pP=(ws (zjl x m)*ws r)%pP:=by rw [q1,Nat.add_mul_mod_self_right]
  have f2:ws (zb7 (zjl y n) r)%pP=(ws (zjl y n)*ws r)%pP:=by rw [q2,Nat.add_mul_mod_self_right]
  rw [f1,f2,v1,v2,em,Nat.mul_mod,Nat.add_mod,e,←Nat.add_mod,←Nat.mul_mod]
end Go.Sym.Pol

namespace Go.Sym.Pol
open Go.Sym.Lp
theorem yaq {x:List UInt64} (h:x.length=5) {l:Nat} (hl:l<5) (v:UInt64):
    ws (x.set l v)+2^(26*l)*(g64 x l).toNat=ws x+2^(26*l)*v.toNat:=by
  obtain ⟨a,b,c,d,e,rfl⟩:=zd5 h
  have:l=0∨l=1∨l=2∨l=3∨l=4:=by omega
  rcases this with rfl|rfl|rfl|rfl|rfl
  ·show v.toNat+_+_+_+_+1*a.toNat=a.toNat+_+_+_+_+1*v.toNat;omega
  ·show _+67108864*v.toNat+_+_+_+67108864*b.toNat=_+67108864*b.toNat+_+_+_+67108864*v.toNat;omega
  ·show _+_+4503599627370496*v.toNat+_+_+4503599627370496*c.toNat=_+_+4503599627370496*c.toNat+_+_+4503599627370496*v.toNat;omega
  ·show _+_+_+302231454903657293676544*v.toNat+_+302231454903657293676544*d.toNat=_+_+_+302231454903657293676544*d.toNat+_+302231454903657293676544*v.toNat;omega
  ·show _+_+_+_+20282409603651670423947251286016*v.toNat+20282409603651670423947251286016*e.toNat=_+_+_+_+20282409603651670423947251286016*e.toNat+20282409603651670423947251286016*v.toNat;omega
theorem z5z {a:UInt64} {k:Nat} (hk:k<64) (h:a.toNat<2^k):(a|||UInt64.ofNat 1<<<UInt64.ofNat k).toNat=a.toNat+2^k:=by
  have hp:2^k<2^64:=Nat.pow_lt_pow_right (by decide) hk
  have hk2:(UInt64.ofNat k).toNat=k:=by rw [UInt64.toNat_ofNat'];omega
  rw [UInt64.toNat_or,UInt64.toNat_shiftLeft,hk2,Nat.mod_eq_of_lt hk]
  show a.toNat|||(1<<<k)%2^64=_
  rw [Nat.one_shiftLeft,Nat.mod_eq_of_lt hp,Nat.or_comm]
  have e:=Nat.two_pow_add_eq_or_of_lt h 1
  rw [Nat.mul_one] at e
  rw [←e,Nat.add_comm]
def zcd (P:Nat→Bool):Nat→Nat
  |0=>0
  |i+1=>zcd P i+if P i=true then 2^i else 0
theorem zj3 (P:Nat→Bool): ∀i,i≤130→ws (xx P i)=zcd P i∧ ∀l,l<5→(g64 (xx P i) l).toNat<2^(min 26 (i-26*l))
  |0,_=>⟨rfl,fun l hl=>by
   have h0:(g64 (xx P 0) l).toNat=0:=by
     have:l=0∨l=1∨l=2∨l=3∨l=4:=by omega
     rcases this with rfl|rfl|rfl|rfl|rfl<;>rfl
   rw [h0]
   exact Nat.pow_pos (by decide)⟩
  |i+1,h=>by
   obtain ⟨hv,hb⟩:=zj3 P i (by omega)
   have hmono: ∀l,2^(min 26 (i-26*l))≤2^(min 26 (i+1-26*l)):=fun l=>Nat.pow_le_pow_right (by decide) (by omega)
   by_cases hp:P i=true
   ·rw [zkq hp]
    have hl5:i/ 26<5:=by omega
    have hg:(g64 (xx P i) (i/ 26)).toNat<2^(i%26):=by
      have:=hb (i/ 26) hl5
      rwa [show min 26 (i-26*(i/ 26))=i%26 by omega] at this
    have ho:=z5z (a:=g64 (xx P i) (i/ 26)) (k:=i%26) (by omega) hg
    refine ⟨?_,?_⟩
    ·have hs:=yaq (zbj P i) hl5 (g64 (xx P i) (i/ 26)|||UInt64.ofNat 1<<<UInt64.ofNat (i%26))
     rw [ho,Nat.mul_add,←Nat.pow_add,show 26*(i/ 26)+i%26=i by omega] at hs
     simp only [zcd]
     rw [if_pos hp,←hv]
     omega
    ·intro l hl
     by_cases hli:l=i/ 26
     ·rw [hli]
      have hgs:g64 ((xx P i).set (i/ 26) (g64 (xx P i) (i/ 26)|||UInt64.ofNat 1<<<UInt64.ofNat (i%26))) (i/ 26)=g64 (xx P i) (i/ 26)|||UInt64.ofNat 1<<<UInt64.ofNat (i%26):=by
        unfold g64
        rw [List.getD_eq_getElem?_getD,List.getElem?_set_self (by rw [zbj];exact hl5)];rfl
      rw [hgs,ho,show min 26 (i+1-26*(i/ 26))=i%26+1 by omega,Nat.pow_succ]
      omega
     ·have hgs:g64 ((xx P i).set (i/ 26) (g64 (xx P i) (i/ 26)|||UInt64.ofNat 1<<<UInt64.ofNat (i%26))) l=g64 (xx P i) l:=by
        unfold g64
        rw [List.getD_eq_getElem?_getD,List.getElem?_set_ne (by omega),←List.getD_eq_getElem?_getD]
      rw [hgs]
      exact Nat.lt_of_lt_of_le (hb l hl) (hmono l)
   ·have hp2:P i=false:=by cases hh:P i with|true=>exact absurd hh hp|false=>rfl
    rw [zng hp2]
    refine ⟨?_,fun l hl=>Nat.lt_of_lt_of_le (hb l hl) (hmono l)⟩
    simp only [zcd]
    rw [if_neg hp,hv,Nat.add_zero]
end Go.Sym.Pol

namespace Go.Sym.Pol
open Go.Sym.Lp
theorem zuw (P:Nat→Bool): ∀i,zcd P i<2^i
  |0=>Nat.one_pos
  |i+1=>by
   have h:=zuw P i
   simp only [zcd]
   rw [Nat.pow_succ]
   split<;>omega
theorem zlr {P Q:Nat→Bool}: ∀i,(∀j,j<i→P j=Q j)→zcd P i=zcd Q i
  |0,_=>rfl
  |i+1,h=>by
   simp only [zcd]
   rw [zlr i (fun j hj=>h j (by omega)),h i (by omega)]
theorem z4u (P:Nat→Bool) {i:Nat} (h:i≤129):
    ws ((xx P i).set (i/ 26) (g64 (xx P i) (i/ 26)|||UInt64.ofNat 1<<<UInt64.ofNat (i%26)))=zcd P i+2^i∧
    ∀l,l<5→(g64 ((xx P i).set (i/ 26) (g64 (xx P i) (i/ 26)|||UInt64.ofNat 1<<<UInt64.ofNat (i%26))) l).toNat<67108864:=by
  have hc:xx P i=xx (fun j=>if j=i then true else P j) i:=by
    have: ∀k,k≤i→xx P k=xx (fun j=>if j=i then true else P j) k:=by
      intro k
      induction k with
      |zero=>intro _;rfl
      |succ k ih=>
       intro hk
       have hQ:(fun j=>if j=i then true else P j) k=P k:=if_neg (by omega)
       have ih2:=ih (by omega)
       cases hp:P k with
       |true=>rw [zkq hp,zkq (hQ.trans hp),←ih2]
       |false=>rw [zng hp,zng (hQ.trans hp),←ih2]
    exact this i (Nat.le_refl _)
  have hs:xx (fun j=>if j=i then true else P j) (i+1)=(xx P i).set (i/ 26) (g64 (xx P i) (i/ 26)|||UInt64.ofNat 1<<<UInt64.ofNat (i%26)):=by
    rw [zkq (by simp),←hc]
  obtain ⟨hv,hb⟩:=zj3 (fun j=>if j=i then true else P j) (i+1) (by omega)
  rw [hs] at hv hb
  refine ⟨?_,fun l hl=>Nat.lt_of_lt_of_le (hb l hl) (Nat.pow_le_pow_right (n:=2) (by decide) (Nat.min_le_left 26 _))⟩
  rw [hv]
  simp only [zcd,if_true]
  rw [zlr (Q:=P) i (fun j hj=>if_neg (by omega))]
theorem zt8 (s:List UInt8) (at':Nat) {n:Nat} (hn:n≤16):
    ws (zpg s at' n)=zcd (zci s at') (8*n)+2^(8*n)∧ ∀l,l<5→(g64 (zpg s at' n) l).toNat<67108864:=
  z4u (zci s at') (by omega)
end Go.Sym.Pol
