/-
  Contracts of functions of the program, each said of symbolic values, and plain laws; no condition beyond each statement's own.
-/
import Derived.Test.YtmmpgjcpielefaaG15
set_option linter.unusedSimpArgs false
set_option linter.unusedVariables false
namespace Go.Sym.A
open Go Go.Proofs.Try Go.Sym.Lp Go.Sym.Cha Go.Sym.Sha Go.Sym.Hk Go.Sym.Gcm Go.Sym.Aes
set_option maxRecDepth 100000
def pl7:List (Nat×List PStep):= []
def fvF (k n:Int):List UInt8:= [UInt8.ofInt k,3,UInt8.ofInt k,UInt8.ofInt (n/ 2^8),UInt8.ofInt n]
theorem z7d {k n:Int} (h:0≤k∧k≤255):hK (fvF k n)=k:=by
  have e:hK (fvF k n)=((UInt8.ofInt k).toNat:Int):=rfl
  rw [e,zd6 h]
theorem z6c {k n:Int} (h:0≤n∧n≤65535):hN (fvF k n)=n:=by
  have e:hN (fvF k n)=256*((UInt8.ofInt (n/ 2^8)).toNat:Int)+((UInt8.ofInt n).toNat:Int):=rfl
  rw [e,zcs,zcs]
  have:(2:Int)^8=256:=rfl
  rw [this];omega
theorem zzz {k n:Int} (h:n=0):hT (fvF k n)= []:=by
  subst h
  unfold hT
  rw [show (fvF k 0).drop 5= [] from rfl,List.take_nil]
theorem z2u (k n:Int):(fvF k n).length=5:=rfl
theorem xf (k n:Int):([]:List UInt8)++List.take (Int.toNat 4) [UInt8.ofInt k,3,UInt8.ofInt k,UInt8.ofInt (n/ 2^8),UInt8.ofInt n]++List.drop (Int.toNat 4) [UInt8.ofInt k,3,UInt8.ofInt k,UInt8.ofInt (n/ 2^8),UInt8.ofInt n]=fvF k n:=rfl
theorem zat {h:List UInt8} {b:Bool} {k n:Int} (hk:hK h=k) (hn:hN h=n):hA h b=if zw k then (if (if b=true∧k=23 then 16640 else 16384)<n then 22 else if b=true∧(k=21∨k=22) then 10 else-1) else 10:=by
  unfold hA;rw [hk,hn]
attribute [local irreducible] zb8 exF kyF ivF xl zap yv inL ncF lnz iA hA hN hK zy zaq hO hP hR hT iK z7 fvF
set_option maxHeartbeats 8000000 in
theorem zq3 (W:World) (kind size:Int) (keys:Bool) (more:List UInt8) (hs:more.length≤140737488351232):
    zil (zq6 f7.ntmps zl3 zes W []) pl7 (zbz f7) f7.results.toList [.int kind,.int size,.bool keys,.str more] [] (fun r _=>r= .bool true):=by
  have b1:=Go.Sym.Ib.ibits_and (a:=kind) (m:=31) (by decide) (by decide)
  have b2:=Go.Sym.Ib.ibits_and (a:=size) (m:=65535) (by decide) (by decide)
  have hky:za7 4867 (kyF 4867 [107]) (ivF 4867 [107]) 0:=⟨.inr (.inr rfl),zfy _ _,zf5 _ _,by decide,by decide⟩
  refine wk ?_
  generalize ya .and kind 31=k at*
  generalize ya .and size 65535=n at*
  have hHK:=z7d (k:=k) (n:=n) (by omega)
  have hHN:=z6c (k:=k) (n:=n) (by omega)
  have hHl:=z2u k n
  have dl:decide ((fvF k n).length<5)=false:=decide_eq_false (by omega)
  have pm:(fvF k n).length+more.length<9223372036854775808:=by omega
  have pm2:((fvF k n)++more).length<9223372036854775808:=by rw [List.length_append];omega
  have pm3:za7 4867 (kyF 4867 [107]) (ivF 4867 [107]) 0∧((fvF k n)++more).length<9223372036854775808:=⟨hky,pm2⟩
  have k3:k<20∨23<k∨(20≤k∧k≤23):=by omega
  have k6:k<20∨23<k∨k=20∨k=21∨k=22∨k=23:=by omega
  have n3:n=0∨(0<n∧n≤16384)∨16384<n:=by omega
  have n4:n=0∨(0<n∧n≤16384)∨(16384<n∧n≤16640)∨16640<n:=by omega
  cases keys
  ·rcases k3 with hk|hk|hk
   ·have hv:hA (fvF k n) false=10:=by rw [zat hHK hHN,if_neg (by unfold zw;omega)]
    have d2:decide (hA (fvF k n) false= -1)=false:=decide_eq_false (by rw [hv];decide)
    refine wk ?_
    rw [xf]
    repeat ((conv=>whnf);first|refine zn ?_|refine zf ?_|refine zg ?_|refine za ?_|refine zi (by first|(rw [hv];rfl)) ?_|refine zj (by first|(rw [hv];rfl)) ?_)
    conv=>whnf
    refine yl (hp':= []) [] rfl ?_
    repeat ((conv=>whnf);refine za ?_)
    conv=>whnf
    refine zh (congrArg SV.bool (show decide (hA (fvF k n) false=10)=true from decide_eq_true hv)) ?_
    repeat ((conv=>whnf);refine za ?_)
    exact trivial
   ·have hv:hA (fvF k n) false=10:=by rw [zat hHK hHN,if_neg (by unfold zw;omega)]
    have d2:decide (hA (fvF k n) false= -1)=false:=decide_eq_false (by rw [hv];decide)
    refine wk ?_
    rw [xf]
    repeat ((conv=>whnf);first|refine zn ?_|refine zf ?_|refine zg ?_|refine za ?_|refine zi (by first|(rw [hv];rfl)) ?_|refine zj (by first|(rw [hv];rfl)) ?_)
    conv=>whnf
    refine yl (hp':= []) [] rfl ?_
    repeat ((conv=>whnf);refine za ?_)
    conv=>whnf
    refine zh (congrArg SV.bool (show decide (hA (fvF k n) false=10)=true from decide_eq_true hv)) ?_
    repeat ((conv=>whnf);refine za ?_)
    exact trivial
   ·rcases n3 with hn|hn|hn
    ·have hm:(if false=true∧k=23 then (16640:Int) else 16384)=16384:=if_neg (fun h=>Bool.noConfusion h.1)
     have hv:hA (fvF k n) false=(-1):=by rw [zat hHK hHN,if_pos (by unfold zw;omega),hm,if_neg (by omega),if_neg (fun h=>Bool.noConfusion h.1)]
     have d2:decide (hA (fvF k n) false= -1)=true:=decide_eq_true hv
     have d3:decide (((fvF k n).length:Int)<5+hN (fvF k n))=false:=decide_eq_false (by omega)
     have hT0:=zzz (k:=k) hn
     have d6:(decide (hK (fvF k n)=k)&&(decide (hT (fvF k n)= [])&&true))=true:=by rw [decide_eq_true hHK,decide_eq_true hT0];rfl
     refine wk ?_
     rw [xf]
     repeat ((conv=>whnf);first|refine zn ?_|refine zf ?_|refine zg ?_|refine za ?_|refine zi (by first|(rw [d6];rfl)) ?_|refine zj (by first|(rw [d6];rfl)) ?_)
     conv=>whnf
     refine yl (hp':= []) [] rfl ?_
     repeat ((conv=>whnf);refine za ?_)
     conv=>whnf
     refine zh (congrArg SV.bool d6) ?_
     repeat ((conv=>whnf);refine za ?_)
     exact trivial
    ·have hm:(if false=true∧k=23 then (16640:Int) else 16384)=16384:=if_neg (fun h=>Bool.noConfusion h.1)
     have hv:hA (fvF k n) false=(-1):=by rw [zat hHK hHN,if_pos (by unfold zw;omega),hm,if_neg (by omega),if_neg (fun h=>Bool.noConfusion h.1)]
     have d2:decide (hA (fvF k n) false= -1)=true:=decide_eq_true hv
     have d3:decide (((fvF k n).length:Int)<5+hN (fvF k n))=true:=decide_eq_true (by omega)
     refine wk ?_
     rw [xf]
     refine wk ?_
     exact ze (hp':= []) [] rfl
    ·have hm:(if false=true∧k=23 then (16640:Int) else 16384)=16384:=if_neg (fun h=>Bool.noConfusion h.1)
     have hv:hA (fvF k n) false=22:=by rw [zat hHK hHN,if_pos (by unfold zw;omega),hm,if_pos (by omega)]
     have d2:decide (hA (fvF k n) false= -1)=false:=decide_eq_false (by rw [hv];decide)
     refine wk ?_
     rw [xf]
     repeat ((conv=>whnf);first|refine zn ?_|refine zf ?_|refine zg ?_|refine za ?_|refine zi (by first|(rw [hv];rfl)) ?_|refine zj (by first|(rw [hv];rfl)) ?_)
     conv=>whnf
     refine yl (hp':= []) [] rfl ?_
     repeat ((conv=>whnf);refine za ?_)
     conv=>whnf
     refine zh (congrArg SV.bool (show decide (hA (fvF k n) false=22)=true from decide_eq_true hv)) ?_
     repeat ((conv=>whnf);refine za ?_)
     exact trivial
  ·rcases k6 with hk|hk|hk|hk|hk|hk
   ·have hv:hA (fvF k n) true=10:=by rw [zat hHK hHN,if_neg (by unfold zw;omega)]
    have d2:decide (hA (fvF k n) true= -1)=false:=decide_eq_false (by rw [hv];decide)
    refine wk ?_
    rw [xf]
    repeat ((conv=>whnf);first|refine zn ?_|refine zf ?_|refine zg ?_|refine za ?_|refine zi (by first|(rw [hv];rfl)) ?_|refine zj (by first|(rw [hv];rfl)) ?_)
    conv=>whnf
    refine yl (hp':= []) [] rfl ?_
    repeat ((conv=>whnf);refine za ?_)
    conv=>whnf
    refine zh (congrArg SV.bool (show decide (hA (fvF k n) true=10)=true from decide_eq_true hv)) ?_
    repeat ((conv=>whnf);refine za ?_)
    exact trivial
   ·have hv:hA (fvF k n) true=10:=by rw [zat hHK hHN,if_neg (by unfold zw;omega)]
    have d2:decide (hA (fvF k n) true= -1)=false:=decide_eq_false (by rw [hv];decide)
    refine wk ?_
    rw [xf]
    repeat ((conv=>whnf);first|refine zn ?_|refine zf ?_|refine zg ?_|refine za ?_|refine zi (by first|(rw [hv];rfl)) ?_|refine zj (by first|(rw [hv];rfl)) ?_)
    conv=>whnf
    refine yl (hp':= []) [] rfl ?_
    repeat ((conv=>whnf);refine za ?_)
    conv=>whnf
    refine zh (congrArg SV.bool (show decide (hA (fvF k n) true=10)=true from decide_eq_true hv)) ?_
    repeat ((conv=>whnf);refine za ?_)
    exact trivial
   ·rcases n3 with hn|hn|hn
    ·have hm:(if true=true∧k=23 then (16640:Int) else 16384)=16384:=if_neg (fun h=>by omega)
     have hv:hA (fvF k n) true=(-1):=by rw [zat hHK hHN,if_pos (by unfold zw;omega),hm,if_neg (by omega),if_neg (fun h=>by omega)]
     have d2:decide (hA (fvF k n) true= -1)=true:=decide_eq_true hv
     have d3:decide (((fvF k n).length:Int)<5+hN (fvF k n))=false:=decide_eq_false (by omega)
     have hT0:=zzz (k:=k) hn
     have d6:(decide (hK (fvF k n)=k)&&(decide (hT (fvF k n)= [])&&true))=true:=by rw [decide_eq_true hHK,decide_eq_true hT0];rfl
     have d4:decide (hK (fvF k n)=20)=true:=decide_eq_true (by omega)
     refine wk ?_
     rw [xf]
     repeat ((conv=>whnf);first|refine zn ?_|refine zf ?_|refine zg ?_|refine za ?_|refine zi (by first|(rw [d6];rfl)) ?_|refine zj (by first|(rw [d6];rfl)) ?_)
     conv=>whnf
     refine yl (hp':= []) [] rfl ?_
     repeat ((conv=>whnf);refine za ?_)
     conv=>whnf
     refine zh (congrArg SV.bool d6) ?_
     repeat ((conv=>whnf);refine za ?_)
     exact trivial
    ·have hm:(if true=true∧k=23 then (16640:Int) else 16384)=16384:=if_neg (fun h=>by omega)
     have hv:hA (fvF k n) true=(-1):=by rw [zat hHK hHN,if_pos (by unfold zw;omega),hm,if_neg (by omega),if_neg (fun h=>by omega)]
     have d2:decide (hA (fvF k n) true= -1)=true:=decide_eq_true hv
     have d3:decide (((fvF k n).length:Int)<5+hN (fvF k n))=true:=decide_eq_true (by omega)
     refine wk ?_
     rw [xf]
     refine wk ?_
     exact ze (hp':= []) [] rfl
    ·have hm:(if true=true∧k=23 then (16640:Int) else 16384)=16384:=if_neg (fun h=>by omega)
     have hv:hA (fvF k n) true=22:=by rw [zat hHK hHN,if_pos (by unfold zw;omega),hm,if_pos (by omega)]
     have d2:decide (hA (fvF k n) true= -1)=false:=decide_eq_false (by rw [hv];decide)
     refine wk ?_
     rw [xf]
     repeat ((conv=>whnf);first|refine zn ?_|refine zf ?_|refine zg ?_|refine za ?_|refine zi (by first|(rw [hv];rfl)) ?_|refine zj (by first|(rw [hv];rfl)) ?_)
     conv=>whnf
     refine yl (hp':= []) [] rfl ?_
     repeat ((conv=>whnf);refine za ?_)
     conv=>whnf
     refine zh (congrArg SV.bool (show decide (hA (fvF k n) true=22)=true from decide_eq_true hv)) ?_
     repeat ((conv=>whnf);refine za ?_)
     exact trivial
   ·rcases n3 with hn|hn|hn
    ·have hm:(if true=true∧k=23 then (16640:Int) else 16384)=16384:=if_neg (fun h=>by omega)
     have hv:hA (fvF k n) true=10:=by rw [zat hHK hHN,if_pos (by unfold zw;omega),hm,if_neg (by omega),if_pos ⟨rfl,by omega⟩]
     have d2:decide (hA (fvF k n) true= -1)=false:=decide_eq_false (by rw [hv];decide)
     refine wk ?_
     rw [xf]
     repeat ((conv=>whnf);first|refine zn ?_|refine zf ?_|refine zg ?_|refine za ?_|refine zi (by first|(rw [hv];rfl)) ?_|refine zj (by first|(rw [hv];rfl)) ?_)
     conv=>whnf
     refine yl (hp':= []) [] rfl ?_
     repeat ((conv=>whnf);refine za ?_)
     conv=>whnf
     refine zh (congrArg SV.bool (show decide (hA (fvF k n) true=10)=true from decide_eq_true hv)) ?_
     repeat ((conv=>whnf);refine za ?_)
     exact trivial
    ·have hm:(if true=true∧k=23 then (16640:Int) else 16384)=16384:=if_neg (fun h=>by omega)
     have hv:hA (fvF k n) true=10:=by rw [zat hHK hHN,if_pos (by unfold zw;omega),hm,if_neg (by omega),if_pos ⟨rfl,by omega⟩]
     have d2:decide (hA (fvF k n) true= -1)=false:=decide_eq_false (by rw [hv];decide)
     refine wk ?_
     rw [xf]
     repeat ((conv=>whnf);first|refine zn ?_|refine zf ?_|refine zg ?_|refine za ?_|refine zi (by first|(rw [hv];rfl)) ?_|refine zj (by first|(rw [hv];rfl)) ?_)
     conv=>whnf
     refine yl (hp':= []) [] rfl ?_
     repeat ((conv=>whnf);refine za ?_)
     conv=>whnf
     refine zh (congrArg SV.bool (show decide (hA (fvF k n) true=10)=true from decide_eq_true hv)) ?_
     repeat ((conv=>whnf);refine za ?_)
     exact trivial
    ·have hm:(if true=true∧k=23 then (16640:Int) else 16384)=16384:=if_neg (fun h=>by omega)
     have hv:hA (fvF k n) true=22:=by rw [zat hHK hHN,if_pos (by unfold zw;omega),hm,if_pos (by omega)]
     have d2:decide (hA (fvF k n) true= -1)=false:=decide_eq_false (by rw [hv];decide)
     refine wk ?_
     rw [xf]
     repeat ((conv=>whnf);first|refine zn ?_|refine zf ?_|refine zg ?_|refine za ?_|refine zi (by first|(rw [hv];rfl)) ?_|refine zj (by first|(rw [hv];rfl)) ?_)
     conv=>whnf
     refine yl (hp':= []) [] rfl ?_
     repeat ((conv=>whnf);refine za ?_)
     conv=>whnf
     refine zh (congrArg SV.bool (show decide (hA (fvF k n) true=22)=true from decide_eq_true hv)) ?_
     repeat ((conv=>whnf);refine za ?_)
     exact trivial
   ·rcases n3 with hn|hn|hn
    ·have hm:(if true=true∧k=23 then (16640:Int) else 16384)=16384:=if_neg (fun h=>by omega)
     have hv:hA (fvF k n) true=10:=by rw [zat hHK hHN,if_pos (by unfold zw;omega),hm,if_neg (by omega),if_pos ⟨rfl,by omega⟩]
     have d2:decide (hA (fvF k n) true= -1)=false:=decide_eq_false (by rw [hv];decide)
     refine wk ?_
     rw [xf]
     repeat ((conv=>whnf);first|refine zn ?_|refine zf ?_|refine zg ?_|refine za ?_|refine zi (by first|(rw [hv];rfl)) ?_|refine zj (by first|(rw [hv];rfl)) ?_)
     conv=>whnf
     refine yl (hp':= []) [] rfl ?_
     repeat ((conv=>whnf);refine za ?_)
     conv=>whnf
     refine zh (congrArg SV.bool (show decide (hA (fvF k n) true=10)=true from decide_eq_true hv)) ?_
     repeat ((conv=>whnf);refine za ?_)
     exact trivial
    ·have hm:(if true=true∧k=23 then (16640:Int) else 16384)=16384:=if_neg (fun h=>by omega)
     have hv:hA (fvF k n) true=10:=by rw [zat hHK hHN,if_pos (by unfold zw;omega),hm,if_neg (by omega),if_pos ⟨rfl,by omega⟩]
     have d2:decide (hA (fvF k n) true= -1)=false:=decide_eq_false (by rw [hv];decide)
     refine wk ?_
     rw [xf]
     repeat ((conv=>whnf);first|refine zn ?_|refine zf ?_|refine zg ?_|refine za ?_|refine zi (by first|(rw [hv];rfl)) ?_|refine zj (by first|(rw [hv];rfl)) ?_)
     conv=>whnf
     refine yl (hp':= []) [] rfl ?_
     repeat ((conv=>whnf);refine za ?_)
     conv=>whnf
     refine zh (congrArg SV.bool (show decide (hA (fvF k n) true=10)=true from decide_eq_true hv)) ?_
     repeat ((conv=>whnf);refine za ?_)
     exact trivial
    ·have hm:(if true=true∧k=23 then (16640:Int) else 16384)=16384:=if_neg (fun h=>by omega)
     have hv:hA (fvF k n) true=22:=by rw [zat hHK hHN,if_pos (by unfold zw;omega),hm,if_pos (by omega)]
     have d2:decide (hA (fvF k n) true= -1)=false:=decide_eq_false (by rw [hv];decide)
     refine wk ?_
     rw [xf]
     repeat ((conv=>whnf);first|refine zn ?_|refine zf ?_|refine zg ?_|refine za ?_|refine zi (by first|(rw [hv];rfl)) ?_|refine zj (by first|(rw [hv];rfl)) ?_)
     conv=>whnf
     refine yl (hp':= []) [] rfl ?_
     repeat ((conv=>whnf);refine za ?_)
     conv=>whnf
     refine zh (congrArg SV.bool (show decide (hA (fvF k n) true=22)=true from decide_eq_true hv)) ?_
     repeat ((conv=>whnf);refine za ?_)
     exact trivial
   ·rcases n4 with hn|hn|hn|hn
    ·have hm:(if true=true∧k=23 then (16640:Int) else 16384)=16640:=if_pos ⟨rfl,hk⟩
     have hv:hA (fvF k n) true=(-1):=by rw [zat hHK hHN,if_pos (by unfold zw;omega),hm,if_neg (by omega),if_neg (fun h=>by omega)]
     have d2:decide (hA (fvF k n) true= -1)=true:=decide_eq_true hv
     have d3:decide (((fvF k n).length:Int)<5+hN (fvF k n))=false:=decide_eq_false (by omega)
     have hT0:=zzz (k:=k) hn
     have d6:(decide (hK (fvF k n)=k)&&(decide (hT (fvF k n)= [])&&true))=true:=by rw [decide_eq_true hHK,decide_eq_true hT0];rfl
     have d4:decide (hK (fvF k n)=20)=false:=decide_eq_false (by omega)
     have d5:decide (hO 4867 (kyF 4867 [107]) (ivF 4867 [107]) 0 (fvF k n))=false:=decide_eq_false (fun hh=>by unfold hO at hh;rw [hT0] at hh;exact absurd hh.1 (by decide))
     refine wk ?_
     rw [xf]
     repeat ((conv=>whnf);first|refine zn ?_|refine zf ?_|refine zg ?_|refine za ?_|refine zi (by first|(rw [d6];rfl)) ?_|refine zj (by first|(rw [d6];rfl)) ?_)
     conv=>whnf
     exact ze (hp':= []) [] rfl
    ·have hm:(if true=true∧k=23 then (16640:Int) else 16384)=16640:=if_pos ⟨rfl,hk⟩
     have hv:hA (fvF k n) true=(-1):=by rw [zat hHK hHN,if_pos (by unfold zw;omega),hm,if_neg (by omega),if_neg (fun h=>by omega)]
     have d2:decide (hA (fvF k n) true= -1)=true:=decide_eq_true hv
     have d3:decide (((fvF k n).length:Int)<5+hN (fvF k n))=true:=decide_eq_true (by omega)
     refine wk ?_
     rw [xf]
     refine wk ?_
     exact ze (hp':= []) [] rfl
    ·have hm:(if true=true∧k=23 then (16640:Int) else 16384)=16640:=if_pos ⟨rfl,hk⟩
     have hv:hA (fvF k n) true=(-1):=by rw [zat hHK hHN,if_pos (by unfold zw;omega),hm,if_neg (by omega),if_neg (fun h=>by omega)]
     have d2:decide (hA (fvF k n) true= -1)=true:=decide_eq_true hv
     have d3:decide (((fvF k n).length:Int)<5+hN (fvF k n))=true:=decide_eq_true (by omega)
     refine wk ?_
     rw [xf]
     refine wk ?_
     exact ze (hp':= []) [] rfl
    ·have hm:(if true=true∧k=23 then (16640:Int) else 16384)=16640:=if_pos ⟨rfl,hk⟩
     have hv:hA (fvF k n) true=22:=by rw [zat hHK hHN,if_pos (by unfold zw;omega),hm,if_pos (by omega)]
     have d2:decide (hA (fvF k n) true= -1)=false:=decide_eq_false (by rw [hv];decide)
     refine wk ?_
     rw [xf]
     repeat ((conv=>whnf);first|refine zn ?_|refine zf ?_|refine zg ?_|refine za ?_|refine zi (by first|(rw [hv];rfl)) ?_|refine zj (by first|(rw [hv];rfl)) ?_)
     conv=>whnf
     refine yl (hp':= []) [] rfl ?_
     repeat ((conv=>whnf);refine za ?_)
     conv=>whnf
     refine zh (congrArg SV.bool (show decide (hA (fvF k n) true=22)=true from decide_eq_true hv)) ?_
     repeat ((conv=>whnf);refine za ?_)
     exact trivial
theorem zol (W:World) (kind:Int) (_: -9223372036854775808≤kind∧kind≤9223372036854775807) (size:Int) (_: -9223372036854775808≤size∧size≤9223372036854775807) (keys:Bool) (more:List UInt8) (hs:more.length≤140737488351232):
    zil (zq6 f7.ntmps zl3 zes W []) pl7 (zbz f7) f7.results.toList [.int kind,.int size,.bool keys,.str more] [] (fun r _=>r= .bool true):=zq3 W kind size keys more hs
end Go.Sym.A
