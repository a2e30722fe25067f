/-
  Contracts of functions of the program, each said of symbolic values, and plain laws; no condition beyond each statement's own.
-/
import Derived.Test.YtmmpgjcpielefaaGreatGLStreamActs27
set_option linter.unusedSimpArgs false
set_option linter.unusedVariables false
namespace Go.Sym.Z
open Go Go.Proofs.Tryz Go.Sym.Lp Go.Sym.Cha Go.Sym.Sha Go.Sym.Hk
set_option maxRecDepth 100000
attribute [local irreducible] x3 exF kyF ivF y6 xq y3 inL ncF hdF
def ymr:List (Nat×List PStep):= [(10,[⟨0,[]⟩,⟨1,[]⟩,⟨2,[]⟩,⟨3,[]⟩,⟨4,[0,1,2,3]⟩,⟨5,[0,1,2,3]⟩,⟨6,[0,1,2,3]⟩,⟨7,[0,1,2,3]⟩,⟨8,[0,1,2,3,4,5,6,7]⟩,⟨10,[0,1,2,3,4,5,6,7,8]⟩,⟨11,[0,1,2,3,4,5,6,7,8,10]⟩,⟨9,[0,1,2,3,4,5,6,7,10,11]⟩,⟨12,[]⟩,⟨13,[]⟩])]
theorem zhx (k n:Int):(hdF k n).length=5:=by unfold hdF;rfl
theorem zzm {p n:Int} (hn0:0≤n) (hn:n≤16384) (hp:0≤p):n+1≤inL p n∧inL p n≤16385:=by
  unfold inL
  split
  ·rename_i h0
   have h:=Int.lt_ediv_add_one_mul_self (n+1+p-1) h0
   rw [Int.add_mul,Int.one_mul] at h
   omega
  ·omega
def zcl (p:Int) (kind:Int) (s:List UInt8):List UInt8:=s++UInt8.ofInt kind ::List.replicate ((inL p s.length).toNat-s.length-1) 0
def za7 (p w:Int) (key iv:List UInt8) (m kind:Int) (s:List UInt8):List UInt8:=
  hdF 23 ((inL p s.length)+16)++y6 w key (ncF iv m) (hdF 23 ((inL p s.length)+16)) (zcl p kind s)
def ze1 (w:Int) (key iv:List UInt8) (m:Int):Prop:=su w∧key.length=aSz w∧iv.length=12∧0≤m∧m≤1000000000
theorem zjh {w:Int} {key iv:List UInt8} {m:Int} (h:ze1 w key iv m):zdw w key.length:=by
  obtain ⟨h1,h2,_⟩:=h
  rw [h2]
  unfold zdw aSz
  rcases h1 with e|e|e<;>subst e<;>simp
theorem z8i {L:Nat} {s:List UInt8} (h:s.length+1≤L) (k:UInt8) {i:Nat} (hi:i=s.length):(zx (List.replicate (L+16) 0) (off []) (List.take (min s.length (L+16)) s)).set i k=s++k ::List.replicate (L+16-s.length-1) 0:=by
  subst hi
  rw [List.take_of_length_le (show s.length≤min s.length (L+16) by omega)]
  unfold zx
  show (List.take 0 _++s++List.drop (0+s.length) _).set _ _=_
  rw [List.take_zero,List.nil_append,List.drop_replicate,Nat.zero_add,List.set_append_right _ _ (Nat.le_refl _),Nat.sub_self,show L+16-s.length=(L+16-s.length-1)+1 by omega,List.replicate_succ]
  rfl
theorem zxy {L:Nat} {s:List UInt8} (h:s.length+1≤L) (k:UInt8):(s++k ::List.replicate (L+16-s.length-1) 0).take L=s++k ::List.replicate (L-s.length-1) 0:=by
  rw [List.take_append,List.take_of_length_le (by omega),show L-s.length=(L-s.length-1)+1 by omega,List.take_succ_cons,List.take_replicate]
  congr 3
  omega
end Go.Sym.Z

namespace Go.Sym.Z
open Go Go.Proofs.Tryz Go.Sym.Lp Go.Sym.Cha Go.Sym.Sha Go.Sym.Hk
set_option maxRecDepth 100000
attribute [local irreducible] x3 exF kyF ivF y6 xq y3 inL ncF
def yms:List (Nat×List PStep):= []
def yk7:List (Nat×List PStep):= []
def hK (h:List UInt8):Int:=((h.getD 0 0).toNat:Int)
def hN (h:List UInt8):Int:=256*((h.getD 3 0).toNat:Int)+((h.getD 4 0).toNat:Int)
def hA (h:List UInt8) (keyed:Bool):Int:=
  if yv (hK h) then (if (if keyed=true∧hK h=23 then 16640 else 16384)<hN h then 22 else if keyed=true∧(hK h=21∨hK h=22) then 10 else-1) else 10
def z9u:Spec:=fun args hp K=>match args,hp with
  | [.str h,.bool keyed],[]=>Pre (5≤h.length∧h.length<9223372036854775808)
      (ye (decide (hA h keyed= -1)) (K (.tup [.int (hK h),.int (hN h),.int (-1)]) []) (K (.tup [.int 0,.int 0,.int (hA h keyed)]) []))
  |_,_=>False
set_option maxHeartbeats 4000000 in
theorem yfa:zp prog 69 z9u:=by
  refine zm zb4 (zd yjl (zd z1l zi)) rfl func69 rfl call69 (D:=yms) ?_ ?_
  ·intro args hp K h
   unfold z9u at h
   split at h
   ·exact Nat.le_of_ble_eq_true rfl
   ·exact h.elim
  ·intro args hp K h
   unfold z9u at h
   split at h
   ·rename_i x keyed
    obtain ⟨⟨hl,hl2⟩,h⟩:=zq h
    obtain ⟨ht,hf⟩:=z8 h
    have hpu:0≤(3:Int)∧3+2≤(x.length:Int)∧x.length<9223372036854775808:=⟨by decide,by omega,hl2⟩
    have hkd:hK x=((x.getD (Int.toNat 0) 0).toNat:Int):=rfl
    have hnd:hN x=256*((x.getD (Int.toNat 3) 0).toNat:Int)+((x.getD (Int.toNat 3+1) 0).toNat:Int):=rfl
    have b0:=(x.getD (Int.toNat 0) 0).toNat_lt
    have b3:=(x.getD (Int.toNat 3) 0).toNat_lt
    have b4:=(x.getD (Int.toNat 3+1) 0).toNat_lt
    by_cases h1:yv (hK x)
    ·have d1:decide (yv ((x.getD (Int.toNat 0) 0).toNat:Int))=true:=decide_eq_true h1
     have h1':=h1
     unfold yv at h1'
     by_cases hk:keyed=true
     ·subst hk
      by_cases h23:hK x=23
      ·have d21:decide (((x.getD (Int.toNat 0) 0).toNat:Int)=21)=false:=decide_eq_false (by omega)
       have d22:decide (((x.getD (Int.toNat 0) 0).toNat:Int)=22)=false:=decide_eq_false (by omega)
       by_cases h2:16640<hN x
       ·have hv:hA x true=22:=by unfold hA;rw [if_pos h1,if_pos (show true=true∧hK x=23 from ⟨rfl,h23⟩),if_pos h2]
        have h:=hf (decide_eq_false (by rw [hv];decide))
        rw [hv] at h
        repeat ((conv=>whnf);first|refine zu ?_|refine zg ?_|refine zh ?_|refine zb ?_|refine zr (by first|exact d1|(rw [d1];rfl)|exact d21|(rw [d21];rfl)|exact d22|(rw [d22];rfl)) ?_|refine zj (by first|exact d1|(rw [d1];rfl)|exact d21|(rw [d21];rfl)|exact d22|(rw [d22];rfl)) ?_|refine zk (by first|exact d1|(rw [d1];rfl)|exact d21|(rw [d21];rfl)|exact d22|(rw [d22];rfl)) ?_)
        conv=>whnf
        exact zf [] h
       ·have hv:hA x true= -1:=by unfold hA;rw [if_pos h1,if_pos (show true=true∧hK x=23 from ⟨rfl,h23⟩),if_neg h2,if_neg (fun h=>by omega)]
        have h:=ht (decide_eq_true hv)
        repeat ((conv=>whnf);first|refine zu ?_|refine zg ?_|refine zh ?_|refine zb ?_|refine zr (by first|exact d1|(rw [d1];rfl)|exact d21|(rw [d21];rfl)|exact d22|(rw [d22];rfl)) ?_|refine zj (by first|exact d1|(rw [d1];rfl)|exact d21|(rw [d21];rfl)|exact d22|(rw [d22];rfl)) ?_|refine zk (by first|exact d1|(rw [d1];rfl)|exact d21|(rw [d21];rfl)|exact d22|(rw [d22];rfl)) ?_)
        conv=>whnf
        exact zf [] h
      ·by_cases h2:16384<hN x
       ·have hv:hA x true=22:=by unfold hA;rw [if_pos h1,if_neg (show ¬(true=true∧hK x=23) from fun h=>h23 h.2),if_pos h2]
        have h:=hf (decide_eq_false (by rw [hv];decide))
        rw [hv] at h
        repeat ((conv=>whnf);first|refine zu ?_|refine zg ?_|refine zh ?_|refine zb ?_|refine zr (by first|exact d1|(rw [d1];rfl)|exact d21|(rw [d21];rfl)|exact d22|(rw [d22];rfl)) ?_|refine zj (by first|exact d1|(rw [d1];rfl)|exact d21|(rw [d21];rfl)|exact d22|(rw [d22];rfl)) ?_|refine zk (by first|exact d1|(rw [d1];rfl)|exact d21|(rw [d21];rfl)|exact d22|(rw [d22];rfl)) ?_)
        conv=>whnf
        exact zf [] h
       ·by_cases h21:hK x=21
        ·have d21:decide (((x.getD (Int.toNat 0) 0).toNat:Int)=21)=true:=decide_eq_true h21
         have hv:hA x true=10:=by unfold hA;rw [if_pos h1,if_neg (show ¬(true=true∧hK x=23) from fun h=>h23 h.2),if_neg h2,if_pos (show true=true∧(hK x=21∨hK x=22) from ⟨rfl,.inl h21⟩)]
         have h:=hf (decide_eq_false (by rw [hv];decide))
         rw [hv] at h
         repeat ((conv=>whnf);first|refine zu ?_|refine zg ?_|refine zh ?_|refine zb ?_|refine zr (by first|exact d1|(rw [d1];rfl)|exact d21|(rw [d21];rfl)|exact d22|(rw [d22];rfl)) ?_|refine zj (by first|exact d1|(rw [d1];rfl)|exact d21|(rw [d21];rfl)|exact d22|(rw [d22];rfl)) ?_|refine zk (by first|exact d1|(rw [d1];rfl)|exact d21|(rw [d21];rfl)|exact d22|(rw [d22];rfl)) ?_)
         conv=>whnf
         exact zf [] h
        ·have d21:decide (((x.getD (Int.toNat 0) 0).toNat:Int)=21)=false:=decide_eq_false (by omega)
         by_cases h22:hK x=22
         ·have d22:decide (((x.getD (Int.toNat 0) 0).toNat:Int)=22)=true:=decide_eq_true h22
          have hv:hA x true=10:=by unfold hA;rw [if_pos h1,if_neg (show ¬(true=true∧hK x=23) from fun h=>h23 h.2),if_neg h2,if_pos (show true=true∧(hK x=21∨hK x=22) from ⟨rfl,.inr h22⟩)]
          have h:=hf (decide_eq_false (by rw [hv];decide))
          rw [hv] at h
          repeat ((conv=>whnf);first|refine zu ?_|refine zg ?_|refine zh ?_|refine zb ?_|refine zr (by first|exact d1|(rw [d1];rfl)|exact d21|(rw [d21];rfl)|exact d22|(rw [d22];rfl)) ?_|refine zj (by first|exact d1|(rw [d1];rfl)|exact d21|(rw [d21];rfl)|exact d22|(rw [d22];rfl)) ?_|refine zk (by first|exact d1|(rw [d1];rfl)|exact d21|(rw [d21];rfl)|exact d22|(rw [d22];rfl)) ?_)
          conv=>whnf
          exact zf [] h
         ·have d22:decide (((x.getD (Int.toNat 0) 0).toNat:Int)=22)=false:=decide_eq_false (by omega)
          have hv:hA x true= -1:=by unfold hA;rw [if_pos h1,if_neg (show ¬(true=true∧hK x=23) from fun h=>h23 h.2),if_neg h2,if_neg (fun h=>by omega)]
          have h:=ht (decide_eq_true hv)
          repeat ((conv=>whnf);first|refine zu ?_|refine zg ?_|refine zh ?_|refine zb ?_|refine zr (by first|exact d1|(rw [d1];rfl)|exact d21|(rw [d21];rfl)|exact d22|(rw [d22];rfl)) ?_|refine zj (by first|exact d1|(rw [d1];rfl)|exact d21|(rw [d21];rfl)|exact d22|(rw [d22];rfl)) ?_|refine zk (by first|exact d1|(rw [d1];rfl)|exact d21|(rw [d21];rfl)|exact d22|(rw [d22];rfl)) ?_)
          conv=>whnf
          exact zf [] h
     ·have hk':keyed=false:=by cases keyed;rfl;exact absurd rfl hk
      subst hk'
      by_cases h2:16384<hN x
      ·have hv:hA x false=22:=by unfold hA;rw [if_pos h1,if_neg (show ¬(false=true∧hK x=23) from fun h=>Bool.noConfusion h.1),if_pos h2]
       have h:=hf (decide_eq_false (by rw [hv];decide))
       rw [hv] at h
       repeat ((conv=>whnf);first|refine zu ?_|refine zg ?_|refine zh ?_|refine zb ?_|refine zr (by first|exact d1|(rw [d1];rfl)|exact d21|(rw [d21];rfl)|exact d22|(rw [d22];rfl)) ?_|refine zj (by first|exact d1|(rw [d1];rfl)|exact d21|(rw [d21];rfl)|exact d22|(rw [d22];rfl)) ?_|refine zk (by first|exact d1|(rw [d1];rfl)|exact d21|(rw [d21];rfl)|exact d22|(rw [d22];rfl)) ?_)
       conv=>whnf
       exact zf [] h
      ·have hv:hA x false= -1:=by unfold hA;rw [if_pos h1,if_neg (show ¬(false=true∧hK x=23) from fun h=>Bool.noConfusion h.1),if_neg h2,if_neg (fun h=>Bool.noConfusion h.1)]
       have h:=ht (decide_eq_true hv)
       repeat ((conv=>whnf);first|refine zu ?_|refine zg ?_|refine zh ?_|refine zb ?_|refine zr (by first|exact d1|(rw [d1];rfl)|exact d21|(rw [d21];rfl)|exact d22|(rw [d22];rfl)) ?_|refine zj (by first|exact d1|(rw [d1];rfl)|exact d21|(rw [d21];rfl)|exact d22|(rw [d22];rfl)) ?_|refine zk (by first|exact d1|(rw [d1];rfl)|exact d21|(rw [d21];rfl)|exact d22|(rw [d22];rfl)) ?_)
       conv=>whnf
       exact zf [] h
    ·have d1:decide (yv ((x.getD (Int.toNat 0) 0).toNat:Int))=false:=decide_eq_false h1
     have hv:hA x keyed=10:=by unfold hA;rw [if_neg h1]
     have hz:=hf (decide_eq_false (by rw [hv];decide))
     rw [hv] at hz
     have h1':=h1
     unfold yv at h1'
     clear hv ht hf
     cases keyed
     ·repeat ((conv=>whnf);first|refine zu ?_|refine zg ?_|refine zh ?_|refine zb ?_|refine zr (by first|exact d1|(rw [d1];rfl)) ?_|refine zj (by first|exact d1|(rw [d1];rfl)) ?_|refine zk (by first|exact d1|(rw [d1];rfl)) ?_)
      conv=>whnf
      exact zf [] hz
     ·repeat ((conv=>whnf);first|refine zu ?_|refine zg ?_|refine zh ?_|refine zb ?_|refine zr (by first|exact d1|(rw [d1];rfl)) ?_|refine zj (by first|exact d1|(rw [d1];rfl)) ?_|refine zk (by first|exact d1|(rw [d1];rfl)) ?_)
      conv=>whnf
      exact zf [] hz
   ·exact h.elim
def lnz (p:List UInt8):Nat→Nat
  |0=>0
  |n+1=>if p.getD n 0=0 then lnz p n else n+1
theorem z5n (p:List UInt8): ∀n,lnz p n≤n
  |0=>Nat.le_refl _
  |n+1=>by
   simp only [lnz]
   split
   ·exact Nat.le_succ_of_le (z5n p n)
   ·exact Nat.le_refl _
def iK (p:List UInt8):Int:=((p.getD (lnz p p.length-1) 0).toNat:Int)
def iA (p:List UInt8):Int:=if 16385<p.length then 22 else if lnz p p.length=0 then 10 else if iK p=21∨iK p=22∨iK p=23 then-1 else 10
structure Zs (p:List UInt8) where
  k:Nat
  hk:k≤p.length
  hz:lnz p p.length=lnz p k
end Go.Sym.Z

namespace Go.Sym.Z
open Go Go.Proofs.Tryz Go.Sym.Lp Go.Sym.Cha Go.Sym.Sha Go.Sym.Hk
set_option maxRecDepth 100000
attribute [local irreducible] x3 exF kyF ivF y6 xq y3 inL ncF lnz iA
end Go.Sym.Z

namespace Go.Sym.Z
open Go Go.Proofs.Tryz Go.Sym.Lp Go.Sym.Cha Go.Sym.Sha Go.Sym.Hk
set_option maxRecDepth 100000
attribute [local irreducible] x3 exF kyF ivF y6 xq y3 inL ncF lnz iA hA hN hK
def hT (h:List UInt8):List UInt8:=(h.drop 5).take (hN h).toNat
def hR (h:List UInt8):List UInt8:=h.drop (5+(hN h).toNat)
def hP (w:Int) (key iv:List UInt8) (m:Int) (h:List UInt8):List UInt8:=y3 w key (ncF iv m) ((hT h).take ((hT h).length-16))
def hO (w:Int) (key iv:List UInt8) (m:Int) (h:List UInt8):Prop:=16≤(hT h).length∧xq w key (ncF iv m) (h.take 5) ((hT h).take ((hT h).length-16))=(hT h).drop ((hT h).length-16)
instance (w:Int) (key iv:List UInt8) (m:Int) (h:List UInt8):Decidable (hO w key iv m h):=by unfold hO;exact inferInstance
theorem z08 (h:List UInt8):0≤hN h∧hN h≤65535:=by
  unfold hN
  have b3:=(h.getD 3 0).toNat_lt
  have b4:=(h.getD 4 0).toNat_lt
  omega
theorem z71 {h:List UInt8} {b:Bool} (e:hA h b= -1):hN h≤16640:=by
  have hm:(if b=true∧hK h=23 then (16640:Int) else 16384)≤16640:=by split<;>decide
  by_cases h1:yv (hK h)
  ·by_cases h2:(if b=true∧hK h=23 then (16640:Int) else 16384)<hN h
   ·exfalso
    have e2:hA h b=22:=by unfold hA;rw [if_pos h1,if_pos h2]
    rw [e2] at e
    exact absurd e (by decide)
   ·omega
  ·exfalso
   have e2:hA h b=10:=by unfold hA;rw [if_neg h1]
   rw [e2] at e
   exact absurd e (by decide)
theorem ygs {h:List UInt8} (hl:5+hN h≤h.length):((hT h).length:Int)=hN h:=by
  have:=z08 h
  unfold hT
  rw [List.length_take,List.length_drop]
  omega
theorem yib {h:List UInt8} (n:Nat) (e:n=(hN h).toNat):List.take n (List.drop 5 h)=hT h:=by subst e;rfl
end Go.Sym.Z

namespace Go.Sym.Z
open Go Go.Proofs.Tryz Go.Sym.Lp Go.Sym.Cha Go.Sym.Sha Go.Sym.Hk Go.Sym.Gcm Go.Sym.Aes
set_option maxRecDepth 100000
theorem zol {p kind:Int} {s:List UInt8} (hs:s.length≤16384) (hp:0≤p):((zcl p kind s).length:Int)=inL p s.length∧inL p s.length≤16385:=by
  obtain ⟨h1,h2⟩:=zzm (p:=p) (n:=(s.length:Int)) (by omega) (by omega) hp
  refine ⟨?_,h2⟩
  unfold zcl
  rw [List.length_append,List.length_cons,List.length_replicate]
  omega
theorem zru (w:Int) (key nonce aad s:List UInt8):(y6 w key nonce aad s).length=s.length+16:=by
  rw [ze5,List.length_append,zar,zc9]
theorem z2e {p w:Int} {key iv:List UInt8} {m kind:Int} {s:List UInt8} (hs:s.length≤16384) (hp:0≤p):((za7 p w key iv m kind s).length:Int)=21+inL p s.length:=by
  obtain ⟨hl,h2⟩:=zol (kind:=kind) hs hp
  unfold za7
  rw [List.length_append,zru,zhx];omega
attribute [local irreducible] x3 exF kyF ivF y6 xq y3 inL ncF lnz iA hA hN hK
end Go.Sym.Z

namespace Go.Sym.Z
open Go Go.Proofs.Tryz Go.Sym.Lp Go.Sym.Cha Go.Sym.Sha Go.Sym.Hk Go.Sym.Gcm Go.Sym.Aes
set_option maxRecDepth 100000
attribute [local irreducible] x3 exF kyF ivF y6 xq y3 inL ncF lnz iA hA hN hK za7 zcl hO hP hR hT iK
end Go.Sym.Z

namespace Go.Sym.Z
open Go Go.Proofs.Tryz Go.Sym.Lp Go.Sym.Cha Go.Sym.Sha Go.Sym.Hk Go.Sym.Gcm
set_option maxRecDepth 100000
def yl1:List (Nat×List PStep):= [(6,[⟨0,[]⟩,⟨1,[0]⟩,⟨2,[0]⟩,⟨3,[0,1,2]⟩,⟨4,[0,1,2,3]⟩,⟨5,[0,1,2,3]⟩,⟨6,[0,1,2]⟩,⟨7,[0,1,2]⟩,⟨8,[0,1,2,3,4,5,6,7]⟩,⟨9,[0,1,2,3,4,5,6,7,8]⟩,⟨10,[0,1,2,3,4,5,6,7]⟩,⟨11,[0,1,2]⟩,⟨12,[]⟩,⟨13,[]⟩])]
def ylq:List (Nat×List PStep):= [(1,[⟨0,[]⟩,⟨1,[]⟩,⟨2,[]⟩,⟨3,[]⟩,⟨6,[0,1,2,3]⟩,⟨4,[0,1,2,3,6]⟩,⟨5,[6]⟩,⟨7,[0,1,2,3,5]⟩,⟨8,[]⟩,⟨9,[]⟩])]
def ymi:List (Nat×TyI):= [(3,ty3),(4,ty4),(5,ty5),(9,ty9),(48,zd6),(51,zeb),(113,xw),(99,xj),(76,zvd),(78,zs0),(27,zuk),(43,zlv)]
theorem zbs: ∀t i,y8 ymi t=some i→yt prog t i:=(zc zbg (zc zbj (zc zbc (zc zbf (zc zaq (zc zap (zc zai (zc za6 (zc z11 (zc zui (zc ztp (zc zf5 x1))))))))))))
def zkg (iv:List UInt8) (many:Int):Nat→List UInt8
  |0=>iv
  |i+1=>(zkg iv many i).set (4+i) ((zkg iv many i).getD (4+i) 0^^^(beB many 8).getD i 0)
theorem zvh (iv:List UInt8) (many:Int): ∀i,(zkg iv many i).length=iv.length
  |0=>rfl
  |i+1=>by simp only [zkg,List.length_set];exact zvh iv many i
theorem ybv {iv:List UInt8} (h:iv.length=12) (many:Int):zkg iv many 8=ncF iv many:=by
  obtain ⟨a0,a1,a2,a3,a4,a5,a6,a7,a8,a9,b0,b1,rfl⟩:=zym h
  unfold ncF
  rfl
attribute [local irreducible] x3 exF kyF ivF y6 xq y3 inL ncF lnz iA hA hN hK zkg beB
def ztw:Spec:=fun args hp K=>match args,hp with
  | [.agg [.int w,.str key,.str iv,.int many,.bool on]],[]=>Pre (iv.length=12∧0≤many∧many<9223372036854775808) (K (.str (ncF iv many)) [])
  |_,_=>False
set_option maxHeartbeats 4000000 in
theorem zwo:zp prog 47 ztw:=by
  refine zm zbs (zd zvg zi) rfl func47 rfl call47 (D:=yl1) ?_ ?_
  ·intro args hp K h
   unfold ztw at h
   split at h
   ·exact Nat.le_of_ble_eq_true rfl
   ·exact h.elim
  ·intro args hp K h
   unfold ztw at h
   split at h
   ·rename_i w key iv many on
    obtain ⟨⟨hiv,h0,h1⟩,h⟩:=zq h
    have hbl:=zam many (Int.toNat 8)
    rw [←ybv hiv many] at h
    refine za ?_
    refine yi fun tl=>?_
    refine za ?_
    refine zt (Ix (8)) (fun q=>⟨[(3,.sl 1 0 0 [] iv.length (iv.length+tl.length)),(4,.str (beB many (Int.toNat 8))),(5,.int (q.i:Int))],[.dead,.mk 5 [.arr8 (iv.length+tl.length) (zkg iv many q.i++tl)]]⟩) (fun q=>(8)-q.i) ⟨0,Nat.zero_le _⟩ [0,1] ?_ ?_
    ·repeat ((conv=>whnf);refine zb ?_)
     conv=>whnf
     exact zo (congrArg (fun x=>SV.agg [SV.arr8 (iv.length+tl.length) (x++tl)]) (show iv=zkg iv many 0 by unfold zkg;rfl))
    ·intro q
     have hi:=q.hi
     have hl:=zvh iv many q.i
     rw [hiv] at hl
     have hla:(zkg iv many q.i++tl).length=12+tl.length:=by rw [List.length_append,hl]
     have hof:off (yb [] (4+(q.i:Int)).toNat ty5.sz)=4+q.i:=by rw [zy];show 0+(4+(q.i:Int)).toNat*1=_;omega
     have hI:((q.i:Nat):Int).toNat=q.i:=Int.toNat_natCast _
     by_cases h4:q.i<8
     ·refine za ?_
      refine ⟨⟨q.i+1,h4⟩,[0,1],by show (8)-(q.i+1)<(8)-q.i;omega,?_⟩
      repeat ((conv=>whnf);refine zb ?_)
      conv=>whnf
      exact zo (congrArg (fun x=>SV.agg [SV.arr8 (iv.length+tl.length) x]) (show _=zkg iv many (q.i+1)++tl by simp only [zkg];rw [hof,hI,List.set_append_left _ _ (by omega),List.getD_eq_getElem?_getD,List.getElem?_append_left (by omega),←List.getD_eq_getElem?_getD];rfl))
     ·have e4:q.i=8:=by omega
      rw [e4] at hl hla
      rw [e4]
      have hT:List.take iv.length (List.drop (off []) (zkg iv many 8++tl))=zkg iv many 8:=by
        show List.take iv.length (List.drop 0 _)=_;rw [List.drop_zero,hiv];exact List.take_left' hl
      refine za ?_
      rw [hT]
      refine za ?_
      conv=>whnf
      exact zf [] h
   ·exact h.elim
def zpm:Spec:=fun args hp K=>match args,hp with
  | [.int kind,.int n],[]=>Pre (0≤n∧n≤100000) (K (.str (hdF kind n)) [])
  |_,_=>False
theorem z23:zp prog 46 zpm:=by
  refine zm zbs (zd zvg zi) rfl func46 rfl call46 (D:=ylq) ?_ ?_
  ·intro args hp K h
   unfold zpm at h
   split at h
   ·exact Nat.le_of_ble_eq_true rfl
   ·exact h.elim
  ·intro args hp K h
   unfold zpm at h
   split at h
   ·rename_i kind n
    obtain ⟨⟨h0,h1⟩,h⟩:=zq h
    have hb1:=zam 771 (Int.toNat 2)
    have hb2:=zam n (Int.toNat 2)
    refine za ?_
    rw [zex]
    refine za ?_
    rw [ye4,ye4]
    conv=>whnf
    exact zf [] h
   ·exact h.elim
end Go.Sym.Z

namespace Go.Sym.Z
open Go Go.Proofs.Tryz Go.Sym.Lp Go.Sym.Cha Go.Sym.Sha Go.Sym.Hk Go.Sym.Gcm
set_option maxRecDepth 100000
def ymk:List (Nat×List PStep):= []
def yma:List (Nat×List PStep):= []
def ymf:List (Nat×List PStep):= []
def ymm:List (Nat×List PStep):= []
def ykw:List (Nat×List PStep):= [(3,[⟨0,[]⟩,⟨1,[0]⟩,⟨2,[0]⟩,⟨3,[0]⟩,⟨4,[0]⟩,⟨5,[0,1,2,3,4]⟩,⟨6,[0,1,2,3,4]⟩,⟨7,[0,1,2,3,4]⟩,⟨8,[0,1,2,3,4]⟩,⟨9,[0,1,2,3,4]⟩,⟨10,[0]⟩,⟨11,[]⟩,⟨12,[]⟩]),(4,[⟨0,[]⟩,⟨1,[0]⟩,⟨2,[0]⟩,⟨3,[0]⟩,⟨4,[0]⟩,⟨5,[0,1,2,3,4]⟩,⟨6,[0,1,2,3,4,5]⟩,⟨7,[0,1,2,3,4]⟩,⟨8,[0]⟩,⟨9,[]⟩,⟨10,[]⟩,⟨11,[]⟩])]
def yly:List (Nat×List PStep):= []
def ykr:List (Nat×List PStep):= []
def ymt:List (Nat×List PStep):= []
attribute [local irreducible] x3 exF kyF ivF y6 xq y3 inL ncF lnz iA hA hN hK
def zi4 (p rg:Int):Prop:=(0≤p∧p≤16384)∧(rg=0∨(33290≤rg∧rg≤262144))
instance (p rg:Int):Decidable (zi4 p rg):=by unfold zi4;exact inferInstance
def ztq:Spec:=fun args hp K=>match args,hp with
  | [.int p,.int rg],[]=>ye (decide (zi4 p rg)) (K (.tup [.ptr 0 0 0 [],.bool true]) [.mk 78 [.int p,.int rg,.int 0,.str [],.str [],.int 0,.bool false,.int 0,.str [],.str [],.int 0,.bool false,.str [],.int (-1)]]) (K (.tup [.nilptr,.bool false]) [])
  |_,_=>False
set_option maxHeartbeats 4000000 in
theorem ybr:zp prog 11 ztq:=by
  refine zm zbs zi rfl func11 rfl call11 (D:=ymk) ?_ ?_
  ·intro args hp K h
   unfold ztq at h
   split at h
   ·exact Nat.le_of_ble_eq_true rfl
   ·exact h.elim
  ·intro args hp K h
   unfold ztq at h
   split at h
   ·rename_i p rg
    obtain ⟨ht,hf⟩:=z8 h
    by_cases h1:0≤p
    ·by_cases h2:p≤16384
     ·by_cases h3:rg=0
      ·have h:=ht (decide_eq_true ⟨⟨h1,h2⟩,.inl h3⟩)
       refine za ?_
       exact zf [0] h
      ·by_cases h4:33290≤rg
       ·by_cases h5:rg≤262144
        ·have h:=ht (decide_eq_true ⟨⟨h1,h2⟩,.inr ⟨h4,h5⟩⟩)
         refine za ?_
         exact zf [0] h
        ·have h:=hf (decide_eq_false (by unfold zi4;omega))
         refine za ?_
         exact zf [] h
       ·have h:=hf (decide_eq_false (by unfold zi4;omega))
        refine za ?_
        exact zf [] h
     ·have h:=hf (decide_eq_false (by unfold zi4;omega))
      refine za ?_
      exact zf [] h
    ·have h:=hf (decide_eq_false (by unfold zi4;omega))
     refine za ?_
     exact zf [] h
   ·exact h.elim
def zm6:Spec:=fun args hp K=>match args,hp with
  | [.ptr 0 0 0 [],.int w,.str s],[.mk t0 [.int p,.int rg,.int rs,.str rk,.str ri,.int rc,.bool ro,.int ws,.str wk,.str wi,.int wc,.bool wo,.str held,.int f]]=>Pre (s.length≤140737488351232) (ye (decide (su w)) (K (.bool true) [.mk t0 [.int p,.int rg,.int w,.str (kyF w s),.str (ivF w s),.int 0,.bool true,.int ws,.str wk,.str wi,.int wc,.bool wo,.str held,.int f]]) (K (.bool false) [.mk t0 [.int p,.int rg,.int rs,.str rk,.str ri,.int rc,.bool ro,.int ws,.str wk,.str wi,.int wc,.bool wo,.str held,.int f]]))
  |_,_=>False
set_option maxHeartbeats 4000000 in
theorem z4v:zp prog 17 zm6:=by
  refine zm zbs (zd z1g zi) rfl func17 rfl call17 (D:=yma) ?_ ?_
  ·intro args hp K h
   unfold zm6 at h
   split at h
   ·exact Nat.le_of_ble_eq_true rfl
   ·exact h.elim
  ·intro args hp K h
   unfold zm6 at h
   split at h
   ·rename_i w s t0 p rg rs rk ri rc ro ws wk wi wc wo held f
    obtain ⟨hs,h⟩:=zq h
    obtain ⟨ht,hf⟩:=z8 h
    generalize e:decide (su w)=c at ht hf
    cases c
    ·have h:=hf rfl
     refine za ?_
     exact zf [0] h
    ·have h:=ht rfl
     refine za ?_
     exact zf [0] h
   ·exact h.elim
def zka:Spec:=fun args hp K=>match args,hp with
  | [.ptr 0 0 0 [],.int w,.str s],[.mk t0 [.int p,.int rg,.int rs,.str rk,.str ri,.int rc,.bool ro,.int ws,.str wk,.str wi,.int wc,.bool wo,.str held,.int f]]=>Pre (s.length≤140737488351232) (ye (decide (su w)) (K (.bool true) [.mk t0 [.int p,.int rg,.int rs,.str rk,.str ri,.int rc,.bool ro,.int w,.str (kyF w s),.str (ivF w s),.int 0,.bool true,.str held,.int f]]) (K (.bool false) [.mk t0 [.int p,.int rg,.int rs,.str rk,.str ri,.int rc,.bool ro,.int ws,.str wk,.str wi,.int wc,.bool wo,.str held,.int f]]))
  |_,_=>False
set_option maxHeartbeats 4000000 in
theorem z2m:zp prog 19 zka:=by
  refine zm zbs (zd z1g zi) rfl func19 rfl call19 (D:=ymf) ?_ ?_
  ·intro args hp K h
   unfold zka at h
   split at h
   ·exact Nat.le_of_ble_eq_true rfl
   ·exact h.elim
  ·intro args hp K h
   unfold zka at h
   split at h
   ·rename_i w s t0 p rg rs rk ri rc ro ws wk wi wc wo held f
    obtain ⟨hs,h⟩:=zq h
    obtain ⟨ht,hf⟩:=z8 h
    generalize e:decide (su w)=c at ht hf
    cases c
    ·have h:=hf rfl
     refine za ?_
     exact zf [0] h
    ·have h:=ht rfl
     refine za ?_
     exact zf [0] h
   ·exact h.elim
def zs4:Spec:=fun args hp K=>match args,hp with
  | [.ptr 0 0 0 []],[.mk t0 [.int p,.int rg,.int rs,.str rk,.str ri,.int rc,.bool ro,.int ws,.str wk,.str wi,.int wc,.bool wo,.str held,.int f]]=>K (.int wc) [.mk t0 [.int p,.int rg,.int rs,.str rk,.str ri,.int rc,.bool ro,.int ws,.str wk,.str wi,.int wc,.bool wo,.str held,.int f]]
  |_,_=>False
set_option maxHeartbeats 4000000 in
theorem yay:zp prog 25 zs4:=by
  refine zm zbs zi rfl func25 rfl call25 (D:=ymm) ?_ ?_
  ·intro args hp K h
   unfold zs4 at h
   split at h
   ·exact Nat.le_of_ble_eq_true rfl
   ·exact h.elim
  ·intro args hp K h
   unfold zs4 at h
   split at h
   ·rename_i t0 p rg rs rk ri rc ro ws wk wi wc wo held f
    refine za ?_
    exact zf [0] h
   ·exact h.elim
def zsw:Spec:=fun args hp K=>match args,hp with
  | [.ptr 0 0 0 []],[.mk t0 [.int p,.int rg,.int rs,.str rk,.str ri,.int rc,.bool ro,.int ws,.str wk,.str wi,.int wc,.bool wo,.str held,.int f]]=>K (.int (held.length:Int)) [.mk t0 [.int p,.int rg,.int rs,.str rk,.str ri,.int rc,.bool ro,.int ws,.str wk,.str wi,.int wc,.bool wo,.str held,.int f]]
  |_,_=>False
set_option maxHeartbeats 4000000 in
theorem yb5:zp prog 37 zsw:=by
  refine zm zbs zi rfl func37 rfl call37 (D:=yly) ?_ ?_
  ·intro args hp K h
   unfold zsw at h
   split at h
   ·exact Nat.le_of_ble_eq_true rfl
   ·exact h.elim
  ·intro args hp K h
   unfold zsw at h
   split at h
   ·rename_i t0 p rg rs rk ri rc ro ws wk wi wc wo held f
    refine za ?_
    exact zf [0] h
   ·exact h.elim
def zgg (rg:Int) (m n:Nat):Int:=if 0<rg then min (n:Int) (rg-m) else n
def ztm:Spec:=fun args hp K=>match args,hp with
  | [.ptr 0 0 0 [],.str s],[.mk t0 [.int p,.int rg,.int rs,.str rk,.str ri,.int rc,.bool ro,.int ws,.str wk,.str wi,.int wc,.bool wo,.str held,.int f]]=>Pre (0≤rg∧rg≤262144∧(0<rg→(held.length:Int)≤rg)∧held.length+s.length<9223372036854775808) (K (.int (zgg rg held.length s.length)) [.mk t0 [.int p,.int rg,.int rs,.str rk,.str ri,.int rc,.bool ro,.int ws,.str wk,.str wi,.int wc,.bool wo,.str (held++s.take (zgg rg held.length s.length).toNat),.int f]])
  |_,_=>False
set_option maxHeartbeats 4000000 in
theorem yaj:zp prog 15 ztm:=by
  refine zm zbs zi rfl func15 rfl call15 (D:=ykw) ?_ ?_
  ·intro args hp K h
   unfold ztm at h
   split at h
   ·exact Nat.le_of_ble_eq_true rfl
   ·exact h.elim
  ·intro args hp K h
   unfold ztm at h
   split at h
   ·rename_i s t0 p rg rs rk ri rc ro ws wk wi wc wo held f
    obtain ⟨⟨h0,h1,h2,h3⟩,h⟩:=zq h
    unfold zgg at h
    by_cases hr:0<rg
    ·rw [if_pos hr] at h
     have h4:=h2 hr
     obtain ⟨m,hm⟩: ∃m,m=min (s.length:Int) (rg-(held.length:Int)):=⟨_,rfl⟩
     rw [←hm] at h
     have hm0:0≤m:=by omega
     have hm1:m≤(s.length:Int):=by omega
     have hln:(List.take m.toNat s).length≤s.length:=by rw [List.length_take];exact Nat.min_le_right _ _
     refine za ?_
     rw [←hm]
     refine za ?_
     exact zf [0] h
    ·rw [if_neg hr] at h
     have hln:(List.take (s.length:Int).toNat s).length≤s.length:=by rw [List.length_take];exact Nat.min_le_right _ _
     refine za ?_
     exact zf [0] h
   ·exact h.elim
set_option maxHeartbeats 4000000 in
theorem z6s:zp prog 50 zhn:=by
  refine zm zbs zi rfl func50 rfl call50 (D:=ymt) ?_ ?_
  ·intro args hp K h
   unfold zhn at h
   split at h
   ·exact Nat.le_of_ble_eq_true rfl
   ·exact h.elim
  ·intro args hp K h
   unfold zhn at h
   split at h
   ·rename_i s a
    obtain ⟨⟨ha,hl,hs⟩,h⟩:=zq h
    refine za ?_
    refine zt (Ix (2)) (fun q=>⟨[(0,.str s),(1,.int a),(2,.int 2),(9,.int (zdm s a.toNat q.i:Nat)),(10,.int q.i)],[]⟩) (fun q=>(2)-q.i) ⟨0,Nat.zero_le _⟩ [] ?_ ?_
    ·exact zn
    ·intro q
     have hi:=q.hi
     have hI:(a+(q.i:Int)).toNat=a.toNat+q.i:=by omega
     by_cases h4:q.i<2
     ·have hb:zdm s a.toNat q.i<256:=by
        have:q.i=0∨q.i=1:=by omega
        rcases this with e|e<;>rw [e]
        ·exact Nat.zero_lt_succ _
        ·simp only [zdm];rw [Nat.mul_zero,Nat.zero_add];exact UInt8.toNat_lt _
      have hsh:(UInt64.ofNat 8).toNat<64∧ya (((zdm s a.toNat q.i:Nat):Int)*2^(UInt64.ofNat 8).toNat):=⟨by decide,by show ya (((zdm s a.toNat q.i:Nat):Int)*256);unfold ya;omega⟩
      have hor:zae .or (((zdm s a.toNat q.i:Nat):Int)*2^(UInt64.ofNat 8).toNat) (((s.getD (a.toNat+q.i) 0).toNat:Nat):Int)=((zdm s a.toNat (q.i+1):Nat):Int):=by
        have hc:=UInt8.toNat_lt (s.getD (a.toNat+q.i) 0)
        have e:=Nat.two_pow_add_eq_or_of_lt (i:=8) hc (zdm s a.toNat q.i)
        have e2:(((zdm s a.toNat q.i:Nat):Int)*2^(UInt64.ofNat 8).toNat)=((2^8*zdm s a.toNat q.i:Nat):Int):=by show _*(256:Int)=((256*_:Nat):Int);omega
        rw [e2,Go.Sym.Ib.ibits_or (by omega) (by omega) (by rw [←e];omega),←e]
        rfl
      refine za ?_
      conv=>whnf
      refine ⟨⟨q.i+1,h4⟩,[],by show (2)-(q.i+1)<(2)-q.i;omega,?_⟩
      repeat ((conv=>whnf);refine zb ?_)
      conv=>whnf
      exact zo (congrArg SV.int (by rw [←hor,←hI]))
     ·have e4:q.i=2:=by omega
      have e5:((zdm s a.toNat 2:Nat):Int)=256*((s.getD a.toNat 0).toNat:Int)+((s.getD (a.toNat+1) 0).toNat:Int):=by
        simp only [zdm];rw [Nat.mul_zero,Nat.zero_add,Nat.add_zero];omega
      rw [←e5] at h
      rw [e4]
      refine za ?_
      exact zf [] h
   ·exact h.elim
def zzq:Spec:=fun args hp K=>match args,hp with
  | [.ptr 0 0 0 []],[.mk t0 [.int p,.int rg,.int rs,.str rk,.str ri,.int rc,.bool ro,.int ws,.str wk,.str wi,.int wc,.bool wo,.str held,.int f]]=>Pre (5≤held.length∧held.length<9223372036854775808) (K (.int (hA held ro)) [.mk t0 [.int p,.int rg,.int rs,.str rk,.str ri,.int rc,.bool ro,.int ws,.str wk,.str wi,.int wc,.bool wo,.str held,.int f]])
  |_,_=>False
set_option maxHeartbeats 8000000 in
theorem ya8:zp prog 49 zzq:=by
  refine zm zbs (zd z6s zi) rfl func49 rfl call49 (D:=ykr) ?_ ?_
  ·intro args hp K h
   unfold zzq at h
   split at h
   ·exact Nat.le_of_ble_eq_true rfl
   ·exact h.elim
  ·intro args hp K h
   unfold zzq at h
   split at h
   ·rename_i t0 p rg rs rk ri rc ro ws wk wi wc wo held f
    obtain ⟨⟨h5,hl⟩,h⟩:=zq h
    obtain ⟨k,hkd⟩: ∃k,k=((held.getD (Int.toNat 0) 0).toNat:Int):=⟨_,rfl⟩
    have hKk:hK held=k:=by rw [hkd];unfold hK;rfl
    obtain ⟨n,hnd⟩: ∃n,n=256*((held.getD (Int.toNat 3) 0).toNat:Int)+((held.getD (Int.toNat 3+1) 0).toNat:Int):=⟨_,rfl⟩
    have hNn:hN held=n:=by rw [hnd];unfold hN;rfl
    have hpn:0≤(3:Int)∧(3:Int)+2≤(held.length:Int)∧held.length<9223372036854775808:=⟨by decide,by omega,hl⟩
    have b0:=(held.getD (Int.toNat 0) 0).toNat_lt
    have hv:hA held ro=if yv k then (if (if ro=true∧k=23 then 16640 else 16384)<n then 22 else if ro=true∧(k=21∨k=22) then 10 else-1) else 10:=by unfold hA;rw [hKk,hNn]
    rw [hv] at h
    have hk0:0≤k∧k<256:=by omega
    refine za ?_
    rw [←hkd,←hnd]
    have six:k<20∨23<k∨k=20∨k=21∨k=22∨k=23:=by omega
    have n3:n≤16384∨(16384<n∧n≤16640)∨16640<n:=by omega
    clear hkd hnd hv hKk hNn b0
    cases ro
    ·rcases six with hk|hk|hk|hk|hk|hk
     ·rw [if_neg (by unfold yv;omega)] at h
      refine za ?_
      exact zf [0] h
     ·rw [if_neg (by unfold yv;omega)] at h
      refine za ?_
      exact zf [0] h
     ·rw [if_pos (by unfold yv;omega)] at h
      rcases n3 with hn|hn|hn
      ·have hm:(if false=true∧k=23 then (16640:Int) else 16384)=16384:=if_neg (fun h=>Bool.noConfusion h.1)
       rw [hm,if_neg (by omega),if_neg (fun h=>Bool.noConfusion h.1)] at h
       refine za ?_
       exact zf [0] h
      ·have hm:(if false=true∧k=23 then (16640:Int) else 16384)=16384:=if_neg (fun h=>Bool.noConfusion h.1)
       rw [hm,if_pos (by omega)] at h
       refine za ?_
       exact zf [0] h
      ·have hm:(if false=true∧k=23 then (16640:Int) else 16384)=16384:=if_neg (fun h=>Bool.noConfusion h.1)
       rw [hm,if_pos (by omega)] at h
       refine za ?_
       exact zf [0] h
     ·rw [if_pos (by unfold yv;omega)] at h
      rcases n3 with hn|hn|hn
      ·have hm:(if false=true∧k=23 then (16640:Int) else 16384)=16384:=if_neg (fun h=>Bool.noConfusion h.1)
       rw [hm,if_neg (by omega),if_neg (fun h=>Bool.noConfusion h.1)] at h
       refine za ?_
       exact zf [0] h
      ·have hm:(if false=true∧k=23 then (16640:Int) else 16384)=16384:=if_neg (fun h=>Bool.noConfusion h.1)
       rw [hm,if_pos (by omega)] at h
       refine za ?_
       exact zf [0] h
      ·have hm:(if false=true∧k=23 then (16640:Int) else 16384)=16384:=if_neg (fun h=>Bool.noConfusion h.1)
       rw [hm,if_pos (by omega)] at h
       refine za ?_
       exact zf [0] h
     ·rw [if_pos (by unfold yv;omega)] at h
      rcases n3 with hn|hn|hn
      ·have hm:(if false=true∧k=23 then (16640:Int) else 16384)=16384:=if_neg (fun h=>Bool.noConfusion h.1)
       rw [hm,if_neg (by omega),if_neg (fun h=>Bool.noConfusion h.1)] at h
       refine za ?_
       exact zf [0] h
      ·have hm:(if false=true∧k=23 then (16640:Int) else 16384)=16384:=if_neg (fun h=>Bool.noConfusion h.1)
       rw [hm,if_pos (by omega)] at h
       refine za ?_
       exact zf [0] h
      ·have hm:(if false=true∧k=23 then (16640:Int) else 16384)=16384:=if_neg (fun h=>Bool.noConfusion h.1)
       rw [hm,if_pos (by omega)] at h
       refine za ?_
       exact zf [0] h
     ·rw [if_pos (by unfold yv;omega)] at h
      rcases n3 with hn|hn|hn
      ·have hm:(if false=true∧k=23 then (16640:Int) else 16384)=16384:=if_neg (fun h=>Bool.noConfusion h.1)
       rw [hm,if_neg (by omega),if_neg (fun h=>Bool.noConfusion h.1)] at h
       refine za ?_
       exact zf [0] h
      ·have hm:(if false=true∧k=23 then (16640:Int) else 16384)=16384:=if_neg (fun h=>Bool.noConfusion h.1)
       rw [hm,if_pos (by omega)] at h
       refine za ?_
       exact zf [0] h
      ·have hm:(if false=true∧k=23 then (16640:Int) else 16384)=16384:=if_neg (fun h=>Bool.noConfusion h.1)
       rw [hm,if_pos (by omega)] at h
       refine za ?_
       exact zf [0] h
    ·rcases six with hk|hk|hk|hk|hk|hk
     ·rw [if_neg (by unfold yv;omega)] at h
      refine za ?_
      exact zf [0] h
     ·rw [if_neg (by unfold yv;omega)] at h
      refine za ?_
      exact zf [0] h
     ·rw [if_pos (by unfold yv;omega)] at h
      rcases n3 with hn|hn|hn
      ·have hm:(if true=true∧k=23 then (16640:Int) else 16384)=16384:=if_neg (fun h=>by omega)
       rw [hm,if_neg (by omega),if_neg (fun h=>by omega)] at h
       refine za ?_
       exact zf [0] h
      ·have hm:(if true=true∧k=23 then (16640:Int) else 16384)=16384:=if_neg (fun h=>by omega)
       rw [hm,if_pos (by omega)] at h
       refine za ?_
       exact zf [0] h
      ·have hm:(if true=true∧k=23 then (16640:Int) else 16384)=16384:=if_neg (fun h=>by omega)
       rw [hm,if_pos (by omega)] at h
       refine za ?_
       exact zf [0] h
     ·rw [if_pos (by unfold yv;omega)] at h
      rcases n3 with hn|hn|hn
      ·have hm:(if true=true∧k=23 then (16640:Int) else 16384)=16384:=if_neg (fun h=>by omega)
       rw [hm,if_neg (by omega),if_pos ⟨rfl,by omega⟩] at h
       refine za ?_
       exact zf [0] h
      ·have hm:(if true=true∧k=23 then (16640:Int) else 16384)=16384:=if_neg (fun h=>by omega)
       rw [hm,if_pos (by omega)] at h
       refine za ?_
       exact zf [0] h
      ·have hm:(if true=true∧k=23 then (16640:Int) else 16384)=16384:=if_neg (fun h=>by omega)
       rw [hm,if_pos (by omega)] at h
       refine za ?_
       exact zf [0] h
     ·rw [if_pos (by unfold yv;omega)] at h
      rcases n3 with hn|hn|hn
      ·have hm:(if true=true∧k=23 then (16640:Int) else 16384)=16384:=if_neg (fun h=>by omega)
       rw [hm,if_neg (by omega),if_pos ⟨rfl,by omega⟩] at h
       refine za ?_
       exact zf [0] h
      ·have hm:(if true=true∧k=23 then (16640:Int) else 16384)=16384:=if_neg (fun h=>by omega)
       rw [hm,if_pos (by omega)] at h
       refine za ?_
       exact zf [0] h
      ·have hm:(if true=true∧k=23 then (16640:Int) else 16384)=16384:=if_neg (fun h=>by omega)
       rw [hm,if_pos (by omega)] at h
       refine za ?_
       exact zf [0] h
     ·rw [if_pos (by unfold yv;omega)] at h
      rcases n3 with hn|hn|hn
      ·have hm:(if true=true∧k=23 then (16640:Int) else 16384)=16640:=if_pos ⟨rfl,hk⟩
       rw [hm,if_neg (by omega),if_neg (fun h=>by omega)] at h
       refine za ?_
       exact zf [0] h
      ·have hm:(if true=true∧k=23 then (16640:Int) else 16384)=16640:=if_pos ⟨rfl,hk⟩
       rw [hm,if_neg (by omega),if_neg (fun h=>by omega)] at h
       refine za ?_
       exact zf [0] h
      ·have hm:(if true=true∧k=23 then (16640:Int) else 16384)=16640:=if_pos ⟨rfl,hk⟩
       rw [hm,if_pos (by omega)] at h
       refine za ?_
       exact zf [0] h
   ·exact h.elim
end Go.Sym.Z

namespace Go.Sym.Z
open Go Go.Proofs.Tryz Go.Sym.Lp Go.Sym.Cha Go.Sym.Sha Go.Sym.Hk Go.Sym.Gcm
set_option maxRecDepth 100000
def ymu:List (Nat×List PStep):= [(7,[⟨0,[]⟩,⟨1,[]⟩,⟨2,[0,1]⟩,⟨3,[0,1]⟩,⟨4,[0,1]⟩,⟨5,[0,1]⟩,⟨6,[]⟩,⟨7,[]⟩,⟨8,[0,1,2,3,4,5,6,7]⟩,⟨9,[0,1,2,3,4,5,6,7]⟩,⟨10,[0,1,2,3,4,5,6,7]⟩,⟨11,[0,1,2,3,4,5,6,7]⟩,⟨12,[]⟩,⟨13,[0,1,2,3,4,5,6,7,8,9,10,11,12]⟩,⟨14,[0,1,2,3,4,5,6,7,8,9,10,11,12]⟩,⟨15,[0,1,2,3,4,5,6,7,8,9,10,11,12]⟩,⟨16,[0,1,2,3,4,5,6,7,8,9,10,11,12]⟩,⟨17,[]⟩,⟨18,[]⟩]),(10,[⟨0,[]⟩,⟨1,[]⟩,⟨2,[]⟩,⟨3,[]⟩,⟨4,[]⟩,⟨5,[0,1,2,3,4]⟩,⟨6,[0,1,2,3,4]⟩,⟨7,[0,1,2,3,4]⟩,⟨8,[0,1,2,3,4]⟩,⟨9,[0,1,2,3,4]⟩,⟨10,[0,1,2,3,4,5,6,7,8,9]⟩,⟨11,[0,1,2,3,4,5,6,7,8,9]⟩,⟨12,[0,1,2,3,4,5,6,7,8,9]⟩,⟨13,[0,1,2,3,4,5,6,7,8,9]⟩,⟨15,[0,1,2,3,4,5,6,7,8,9,10,11,12,13]⟩,⟨16,[0,1,2,3,4,5,6,7,8,9,10,11,12,13,15]⟩,⟨14,[0,1,2,3,4,5,6,7,8,9,15,16]⟩,⟨17,[]⟩,⟨18,[]⟩,⟨19,[]⟩,⟨20,[19]⟩,⟨21,[20]⟩,⟨22,[]⟩])]
theorem zq9 {k:Int} (h:yv k):20≤k∧k≤23:=by unfold yv at h;omega
theorem z2k {k:Int} (h0: ¬k<20) (h1: ¬23<k):yv k:=by unfold yv;omega
theorem yf8 (kind:Int) (s:List UInt8) {p:Int} (h: ¬0<p):zcl p kind s=s++ [UInt8.ofInt kind]:=by
  unfold zcl inL;rw [if_neg h,show ((s.length:Int)+1).toNat-s.length-1=0 by omega];rfl
theorem ye6 (kind:Int) (s:List UInt8) {p:Int} {L:Nat} (h:inL p s.length=(L:Int)) (hl:s.length+1≤L):zcl p kind s=s++ [UInt8.ofInt kind]++List.replicate (L-(s.length+1)) 0:=by
  unfold zcl;rw [h,Int.toNat_natCast,List.append_assoc,show L-s.length-1=L-(s.length+1) by omega];rfl
attribute [local irreducible] x3 exF kyF ivF y6 xq y3 inL ncF lnz iA hA hN hK hdF za7 zcl
def zt9:Spec:=fun args hp K=>match args,hp with
  | [.ptr 0 0 0 [],.int kind,.str s],[.mk t0 [.int p,.int rg,.int rs,.str rk,.str ri,.int rc,.bool ro,.int ws,.str wk,.str wi,.int wc,.bool wo,.str held,.int f]]=>Pre ((wo=true→ze1 ws wk wi wc)∧0≤p∧p≤16384∧s.length≤140737488351232) (ye (decide (yv kind∧s.length≤16384)) (ye wo (K (.tup [.str (za7 p ws wk wi wc kind s),.bool true]) [.mk t0 [.int p,.int rg,.int rs,.str rk,.str ri,.int rc,.bool ro,.int ws,.str wk,.str wi,.int (wc+1),.bool wo,.str held,.int f]]) (K (.tup [.str (hdF kind s.length++s),.bool true]) [.mk t0 [.int p,.int rg,.int rs,.str rk,.str ri,.int rc,.bool ro,.int ws,.str wk,.str wi,.int wc,.bool wo,.str held,.int f]])) (K (.tup [.str [],.bool false]) [.mk t0 [.int p,.int rg,.int rs,.str rk,.str ri,.int rc,.bool ro,.int ws,.str wk,.str wi,.int wc,.bool wo,.str held,.int f]]))
  |_,_=>False
set_option maxHeartbeats 8000000 in
theorem ybj:zp prog 21 zt9:=by
  refine zm zbs (zd z23 (zd zwo (zd z8o zi))) rfl func21 rfl call21 (D:=ymu) ?_ ?_
  ·intro args hp K h
   unfold zt9 at h
   split at h
   ·exact Nat.le_of_ble_eq_true rfl
   ·exact h.elim
  ·intro args hp K h
   unfold zt9 at h
   split at h
   ·rename_i kind s t0 p rg rs rk ri rc ro ws wk wi wc wo held f
    obtain ⟨⟨hkw,hp0,hp1,hs⟩,h⟩:=zq h
    obtain ⟨ht,hf⟩:=z8 h
    by_cases k0:kind<20
    ·have h:=hf (decide_eq_false fun hh=>by have:=zq9 hh.1;omega)
     refine za ?_
     exact zf [0] h
    ·by_cases k1:23<kind
     ·have h:=hf (decide_eq_false fun hh=>by have:=zq9 hh.1;omega)
      refine za ?_
      exact zf [0] h
     ·by_cases k2:16384<s.length
      ·have h:=hf (decide_eq_false fun hh=>by omega)
       refine za ?_
       exact zf [0] h
      ·have h:=ht (decide_eq_true ⟨z2k k0 k1,by omega⟩)
       obtain ⟨ht,hf⟩:=z8 h
       cases wo
       ·have h:=hf rfl
        have hhl:=zhx kind (s.length:Int)
        refine za ?_
        exact zf [0] h
       ·have h:=ht rfl
        have hok:=hkw rfl
        have hky:=zjh hok
        obtain ⟨hw,hkl,hiv,hm0,hm1⟩:=hok
        have hnl:=zms wi wc
        have hpn:wi.length=12∧0≤wc∧wc<9223372036854775808:=⟨hiv,hm0,by omega⟩
        obtain ⟨hi1,hi2⟩:=zzm (p:=p) (n:=(s.length:Int)) (by omega) (by omega) hp0
        obtain ⟨L,hL⟩: ∃L:Nat,inL p (s.length:Int)=(L:Int):=⟨_,(Int.toNat_of_nonneg (by omega)).symm⟩
        have hhl:=zhx 23 ((L:Int)+16)
        have hIn:(zcl p kind s).length=L:=by have:=(zol (p:=p) (kind:=kind) (s:=s) (by omega) hp0).1;omega
        have hd1:zdw ws wk.length∧(ncF wi wc).length=12∧(hdF 23 ((L:Int)+16)).length≤65536∧(L:Int)≤65536:=⟨hky,by omega,by omega,by omega⟩
        have hsl:(y6 ws wk (ncF wi wc) (hdF 23 ((L:Int)+16)) (zcl p kind s)).length=L+16:=by rw [zru,hIn]
        have hF:za7 p ws wk wi wc kind s=hdF 23 ((L:Int)+16)++y6 ws wk (ncF wi wc) (hdF 23 ((L:Int)+16)) (zcl p kind s):=by unfold za7;rw [hL]
        have hhp:0≤(L:Int)+16∧(L:Int)+16≤100000:=by omega
        rw [hF] at h
        obtain ⟨X,hX⟩: ∃X,X=s++ [UInt8.ofInt kind]:=⟨_,rfl⟩
        have hXl:X.length=s.length+1:=by rw [hX,List.length_append];rfl
        have hXi:(s.length:Int)+1=(X.length:Int):=by omega
        by_cases hp:0<p
        ·have hq:((X.length:Int)+p-1).tdiv p=((X.length:Int)+p-1)/ p:=Int.tdiv_eq_ediv_of_nonneg (by omega)
         have hmm1:=Int.ediv_mul_le ((X.length:Int)+p-1) (show p≠0 by omega)
         have hmm0:0≤((X.length:Int)+p-1)/ p:=Int.ediv_nonneg (by omega) (by omega)
         have hmm2:0≤((X.length:Int)+p-1)/ p*p:=Int.mul_nonneg hmm0 hp0
         have hmm3:((X.length:Int)+p-1)/ p≤(X.length:Int)+p-1:=Int.ediv_le_self _ (by omega)
         have hG:min (((X.length:Int)+p-1).tdiv p*p) 16385=(L:Int):=by rw [←hL,hq,←hXi];unfold inL;rw [if_pos hp]
         have hpd:p≠0∧ya (((X.length:Int)+p-1).tdiv p):=⟨by omega,by rw [hq];unfold ya;omega⟩
         have hpm:ya (((X.length:Int)+p-1).tdiv p*p):=by rw [hq];unfold ya;omega
         have hIF:zcl p kind s=X++List.replicate (L-X.length) 0:=by rw [hX,List.length_append];exact ye6 kind s hL (by omega)
         have hLX:((L:Int)-(X.length:Int)).toNat=L-X.length:=by omega
         have hrl:(List.replicate (L-X.length) (0:UInt8)).length=L-X.length:=List.length_replicate
         rw [hIF] at h hIn hsl
         refine za ?_
         rw [zex,←hX]
         have hIni:((X++List.replicate (L-X.length) (0:UInt8)).length:Int)=(L:Int):=by omega
         repeat ((conv=>whnf);first|refine zr (by assumption) ?_|refine zg ?_|refine zh ?_|refine zb ?_)
         conv=>whnf
         rw [hG]
         clear hpd hpm hG hq hmm0 hmm1 hmm2 hmm3
         have hpA:((L:Int)-(X.length:Int)).toNat*ty5.sz≤16777216:=by rw [hLX];show (L-X.length)*1≤_;omega
         have hpD:off []+((L:Int)-(X.length:Int)).toNat≤(List.replicate ((L:Int)-(X.length:Int)).toNat (0:UInt8)).length:=by rw [List.length_replicate];show 0+_≤_;omega
         have hpE:X.length+(List.take ((L:Int)-(X.length:Int)).toNat (List.drop (off []) (List.replicate ((L:Int)-(X.length:Int)).toNat (0:UInt8)))).length<9223372036854775808:=by rw [hLX,zdg,hrl];omega
         have hpG:ya (((X++List.take ((L:Int)-(X.length:Int)).toNat (List.drop (off []) (List.replicate ((L:Int)-(X.length:Int)).toNat (0:UInt8)))).length:Int)+16):=by rw [hLX,zdg,hIni];unfold ya;omega
         have hpH:0≤(((X++List.take ((L:Int)-(X.length:Int)).toNat (List.drop (off []) (List.replicate ((L:Int)-(X.length:Int)).toNat (0:UInt8)))).length:Int)+16)∧(((X++List.take ((L:Int)-(X.length:Int)).toNat (List.drop (off []) (List.replicate ((L:Int)-(X.length:Int)).toNat (0:UInt8)))).length:Int)+16)≤100000:=by rw [hLX,zdg,hIni];exact hhp
         have hpC:((L:Int)-(X.length:Int)).toNat≤((L:Int)-(X.length:Int)).toNat∧ty5.bytes*((L:Int)-(X.length:Int)).toNat≤281474976710656∧((L:Int)-(X.length:Int)).toNat<9223372036854775808:=by rw [hLX];exact ⟨Nat.le_refl _,by show 1*(L-X.length)≤_;omega,by omega⟩
         refine za ?_
         rw [hLX,zdg,hIni]
         refine zj (decide_eq_true hd1) ?_
         refine za ?_
         conv=>whnf
         exact zf [0] h
        ·obtain ⟨Y,hY⟩: ∃Y,Y=s++List.take 1 (List.drop (off []) ((List.replicate 1 0).set (off [(0,ty5.sz)]) (UInt8.ofInt kind))):=⟨_,rfl⟩
         have hYX:Y=X:=by rw [hY,zex,hX]
         have hYl:Y.length=s.length+1:=by rw [hYX,hXl]
         have hf16:ya ((Y.length:Int)+16):=by unfold ya;omega
         rw [hY] at hf16
         repeat ((conv=>whnf);first|refine zr (by first|assumption|omega|(unfold ya;omega)|(simp only [z9k,zno,ybx,off,zib]<;>omega)|exact pk (by kernel_rfl)|(constructor<;>first|assumption|omega)) ?_|refine zg ?_|refine zh ?_|refine zb ?_)
         conv=>whnf
         rw [zex]
         have hIF:zcl p kind s=s++ [UInt8.ofInt kind]:=yf8 kind s hp
         rw [hIF] at h hIn hsl
         have hIni:((s++ [UInt8.ofInt kind]).length:Int)=(L:Int):=by omega
         repeat ((conv=>whnf);first|refine zr (by first|assumption|omega|(unfold ya;omega)|(simp only [z9k,zno,ybx,off,zib]<;>omega)|exact pk (by kernel_rfl)|(constructor<;>first|assumption|omega)) ?_|refine zg ?_|refine zh ?_|refine zb ?_)
         conv=>whnf
         rw [hIni]
         refine zj (decide_eq_true hd1) ?_
         refine za ?_
         conv=>whnf
         exact zf [0] h
   ·exact h.elim
end Go.Sym.Z

namespace Go.Sym.Z
open Go Go.Proofs.Tryz Go.Sym.Lp Go.Sym.Cha Go.Sym.Sha Go.Sym.Hk Go.Sym.Gcm
set_option maxRecDepth 100000
def ymj:List (Nat×List PStep):= [(1,[⟨0,[]⟩,⟨1,[]⟩,⟨2,[]⟩,⟨3,[]⟩,⟨4,[]⟩,⟨5,[0,1,2,3,4]⟩,⟨6,[0,1,2,3,4]⟩,⟨7,[0,1,2,3,4]⟩,⟨8,[0,1,2,3,4]⟩,⟨9,[0,1,2,3,4]⟩,⟨10,[0,1,2,3,4,5,6,7,8,9]⟩,⟨11,[0,1,2,3,4,5,6,7,8,9]⟩,⟨12,[0,1,2,3,4,5,6,7,8,9]⟩,⟨13,[0,1,2,3,4,5,6,7,8,9]⟩,⟨15,[0,1,2,3,4,5,6,7,8,9,10,11,12,13]⟩,⟨16,[0,1,2,3,4,5,6,7,8,9,10,11,12,13,15]⟩,⟨14,[0,1,2,3,4,5,6,7,8,9,15,16]⟩,⟨17,[]⟩,⟨18,[]⟩,⟨19,[]⟩,⟨20,[19]⟩,⟨21,[20]⟩,⟨22,[]⟩]),(12,[⟨0,[]⟩,⟨1,[0]⟩,⟨2,[0]⟩,⟨3,[]⟩,⟨4,[]⟩,⟨5,[0,1,2,3,4]⟩,⟨6,[0,1,2,3,4,5]⟩,⟨7,[0,1,2,3,4,5]⟩,⟨8,[0,1,2,3,4]⟩,⟨9,[]⟩,⟨10,[]⟩,⟨11,[]⟩])]
attribute [local irreducible] x3 exF kyF ivF y6 xq y3 inL ncF iA hA hN hK hdF za7 zcl
def zxc:Spec:=fun args hp K=>match args,hp with
  | [.ptr 0 0 0 [],.str h,.str s],[.mk t0 [.int p,.int rg,.int rs,.str rk,.str ri,.int rc,.bool ro,.int ws,.str wk,.str wi,.int wc,.bool wo,.str held,.int f]]=>Pre (ze1 rs rk ri rc∧h.length≤100∧s.length≤20000) (ye (decide (16≤s.length∧xq rs rk (ncF ri rc) h (s.take (s.length-16))=s.drop (s.length-16))) (ye (decide (iA (y3 rs rk (ncF ri rc) (s.take (s.length-16)))= -1)) (K (.tup [.agg [.int (iK (y3 rs rk (ncF ri rc) (s.take (s.length-16)))),.str ((y3 rs rk (ncF ri rc) (s.take (s.length-16))).take (lnz (y3 rs rk (ncF ri rc) (s.take (s.length-16))) (y3 rs rk (ncF ri rc) (s.take (s.length-16))).length-1))],.int (-1)]) [.mk t0 [.int p,.int rg,.int rs,.str rk,.str ri,.int (rc+1),.bool ro,.int ws,.str wk,.str wi,.int wc,.bool wo,.str held,.int f]]) (K (.tup [.agg [.int 0,.str []],.int (iA (y3 rs rk (ncF ri rc) (s.take (s.length-16))))]) [.mk t0 [.int p,.int rg,.int rs,.str rk,.str ri,.int rc,.bool ro,.int ws,.str wk,.str wi,.int wc,.bool wo,.str held,.int f]])) (K (.tup [.agg [.int 0,.str []],.int 20]) [.mk t0 [.int p,.int rg,.int rs,.str rk,.str ri,.int rc,.bool ro,.int ws,.str wk,.str wi,.int wc,.bool wo,.str held,.int f]]))
  |_,_=>False
set_option maxHeartbeats 8000000 in
theorem yax:zp prog 51 zxc:=by
  refine zm zbs (zd zwo (zd z40 zi)) rfl func51 rfl call51 (D:=ymj) ?_ ?_
  ·intro args hp K h
   unfold zxc at h
   split at h
   ·exact Nat.le_of_ble_eq_true rfl
   ·exact h.elim
  ·intro args hp K h
   unfold zxc at h
   split at h
   ·rename_i h' s t0 p rg rs rk ri rc ro ws wk wi wc wo held f
    obtain ⟨⟨hok,hh,hs⟩,h⟩:=zq h
    obtain ⟨ht,hf⟩:=z8 h
    have hky:=zjh hok
    obtain ⟨hw,hkl,hiv,hm0,hm1⟩:=hok
    have hnl:=zms ri rc
    have hpn:ri.length=12∧0≤rc∧rc<9223372036854775808:=⟨hiv,hm0,by omega⟩
    have hd:zdw rs rk.length∧(ncF ri rc).length=12∧h'.length≤65536∧(s.length:Int)-16≤65536:=⟨hky,by omega,by omega,by omega⟩
    by_cases hop:16≤s.length∧xq rs rk (ncF ri rc) h' (s.take (s.length-16))=s.drop (s.length-16)
    ·have h:=ht (decide_eq_true hop)
     obtain ⟨p',hp'⟩: ∃p',p'=(y3 rs rk (ncF ri rc) (s.take (s.length-16))):=⟨_,rfl⟩
     have hpl:p'.length≤20000:=by rw [hp',zar,List.length_take];omega
     rw [←hp'] at h
     obtain ⟨ht,hf⟩:=z8 h
     repeat ((conv=>whnf);first|refine zu ?_|refine zg ?_|refine zh ?_|refine zb ?_|refine zr (by first|exact decide_eq_true hd|exact decide_eq_true hop) ?_|refine zj (by first|exact decide_eq_true hd|exact decide_eq_true hop) ?_|refine zk (by first|exact decide_eq_true hd|exact decide_eq_true hop) ?_)
     conv=>whnf
     rw [←hp']
     by_cases h1:16385<p'.length
     ·have hv:iA p'=22:=by unfold iA;rw [if_pos h1]
      have h:=hf (decide_eq_false (by rw [hv];decide))
      rw [hv] at h
      refine za ?_
      exact zf [0] h
     ·refine za ?_
      refine zt (Zs p') (fun z=>⟨[(0,.ptr 0 0 0 []),(6,.ptr 1 0 0 []),(8,.str p'),(10,.int (z.k:Nat))],[.mk t0 [.int p,.int rg,.int rs,.str rk,.str ri,.int rc,.bool ro,.int ws,.str wk,.str wi,.int wc,.bool wo,.str held,.int f],.mk 43 [.int 0,.str []]]⟩) (fun z=>z.k) ⟨p'.length,Nat.le_refl _,rfl⟩ [0,1] ?_ ?_
      ·exact zn
      ·intro z
       have hzk:=z.hk
       have hzz:=z.hz
       by_cases h0:0<z.k
       ·have hix:(((z.k:Nat):Int)-1).toNat=z.k-1:=by omega
        obtain ⟨j,hj⟩: ∃j,z.k=j+1:=⟨z.k-1,by omega⟩
        by_cases hb:p'.getD (z.k-1) 0=0
        ·have hd2:decide (p'.getD (((z.k:Nat):Int)-1).toNat 0=UInt8.ofNat 0)=true:=decide_eq_true (by rw [hix];exact hb)
         have hnx:lnz p' p'.length=lnz p' (z.k-1):=by
           rw [hzz,hj];rw [hj,Nat.add_sub_cancel] at hb;simp only [lnz];rw [if_pos hb];rfl
         repeat ((conv=>whnf);first|refine zu ?_|refine zg ?_|refine zh ?_|refine zb ?_|refine zr (by first|exact hd2|(rw [hd2];rfl)) ?_|refine zj (by first|exact hd2|(rw [hd2];rfl)) ?_|refine zk (by first|exact hd2|(rw [hd2];rfl)) ?_)
         conv=>whnf
         refine ⟨⟨z.k-1,by omega,hnx⟩,[0,1],by show z.k-1<z.k;omega,?_⟩
         repeat ((conv=>whnf);refine zb ?_)
         conv=>whnf
         exact zo (congrArg SV.int (show ((z.k:Nat):Int)-1=((z.k-1:Nat):Int) by omega))
        ·have hd2:decide (p'.getD (((z.k:Nat):Int)-1).toNat 0=UInt8.ofNat 0)=false:=decide_eq_false (by rw [hix];exact hb)
         have hlz:lnz p' p'.length=z.k:=by
           rw [hzz,hj];rw [hj,Nat.add_sub_cancel] at hb;simp only [lnz];rw [if_neg hb]
         have hik:iK p'=((p'.getD (((z.k:Nat):Int)-1).toNat 0).toNat:Int):=by unfold iK;rw [hlz,hix]
         have hkm:lnz p' p'.length-1=(((z.k:Nat):Int)-1).toNat:=by rw [hlz];omega
         have b0:=(p'.getD (((z.k:Nat):Int)-1).toNat 0).toNat_lt
         by_cases hg:iK p'=21∨iK p'=22∨iK p'=23
         ·have hv:iA p'= -1:=by unfold iA;rw [if_neg h1,if_neg (by omega),if_pos hg]
          have h:=ht (decide_eq_true hv)
          rw [hkm,hik] at h
          rw [hik] at hg
          have dz:decide (((z.k:Nat):Int)=0)=false:=decide_eq_false (by omega)
          have dl:decide (((p'.getD (((z.k:Nat):Int)-1).toNat 0).toNat:Int)<21)=false:=decide_eq_false (by omega)
          have dg:decide (((p'.getD (((z.k:Nat):Int)-1).toNat 0).toNat:Int)>23)=false:=decide_eq_false (by omega)
          repeat ((conv=>whnf);first|refine zu ?_|refine zg ?_|refine zh ?_|refine zb ?_|refine zr (by first|exact hd2|(rw [hd2];rfl)|exact dl|(rw [dl];rfl)|exact dg|(rw [dg];rfl)|(rw [dz];rfl)) ?_|refine zj (by first|exact hd2|(rw [hd2];rfl)|exact dl|(rw [dl];rfl)|exact dg|(rw [dg];rfl)|(rw [dz];rfl)) ?_|refine zk (by first|exact hd2|(rw [hd2];rfl)|exact dl|(rw [dl];rfl)|exact dg|(rw [dg];rfl)|(rw [dz];rfl)) ?_)
          conv=>whnf
          exact zf [0] h
         ·have hv:iA p'=10:=by unfold iA;rw [if_neg h1,if_neg (by omega),if_neg hg]
          have h:=hf (decide_eq_false (by rw [hv];decide))
          rw [hv] at h
          rw [hik] at hg
          have dz:decide (((z.k:Nat):Int)=0)=false:=decide_eq_false (by omega)
          by_cases hlo:((p'.getD (((z.k:Nat):Int)-1).toNat 0).toNat:Int)<21
          ·have dl:decide (((p'.getD (((z.k:Nat):Int)-1).toNat 0).toNat:Int)<21)=true:=decide_eq_true (by omega)
           repeat ((conv=>whnf);first|refine zu ?_|refine zg ?_|refine zh ?_|refine zb ?_|refine zr (by first|exact hd2|(rw [hd2];rfl)|exact dl|(rw [dl];rfl)|(rw [dz];rfl)) ?_|refine zj (by first|exact hd2|(rw [hd2];rfl)|exact dl|(rw [dl];rfl)|(rw [dz];rfl)) ?_|refine zk (by first|exact hd2|(rw [hd2];rfl)|exact dl|(rw [dl];rfl)|(rw [dz];rfl)) ?_)
           conv=>whnf
           exact zf [0] h
          ·have dl:decide (((p'.getD (((z.k:Nat):Int)-1).toNat 0).toNat:Int)<21)=false:=decide_eq_false (by omega)
           have dg:decide (((p'.getD (((z.k:Nat):Int)-1).toNat 0).toNat:Int)>23)=true:=decide_eq_true (by omega)
           repeat ((conv=>whnf);first|refine zu ?_|refine zg ?_|refine zh ?_|refine zb ?_|refine zr (by first|exact hd2|(rw [hd2];rfl)|exact dl|(rw [dl];rfl)|exact dg|(rw [dg];rfl)|(rw [dz];rfl)) ?_|refine zj (by first|exact hd2|(rw [hd2];rfl)|exact dl|(rw [dl];rfl)|exact dg|(rw [dg];rfl)|(rw [dz];rfl)) ?_|refine zk (by first|exact hd2|(rw [hd2];rfl)|exact dl|(rw [dl];rfl)|exact dg|(rw [dg];rfl)|(rw [dz];rfl)) ?_)
           conv=>whnf
           exact zf [0] h
       ·have hlz:lnz p' p'.length=0:=by rw [hzz,show z.k=0 by omega];rfl
        have hv:iA p'=10:=by unfold iA;rw [if_neg h1,if_pos hlz]
        have h:=hf (decide_eq_false (by rw [hv];decide))
        rw [hv] at h
        have dz:decide (((z.k:Nat):Int)=0)=true:=decide_eq_true (by omega)
        repeat ((conv=>whnf);first|refine zu ?_|refine zg ?_|refine zh ?_|refine zb ?_|refine zr (by first|(rw [dz];rfl)) ?_|refine zj (by first|(rw [dz];rfl)) ?_|refine zk (by first|(rw [dz];rfl)) ?_)
        conv=>whnf
        exact zf [0] h
    ·have h:=hf (decide_eq_false hop)
     repeat ((conv=>whnf);first|refine zu ?_|refine zg ?_|refine zh ?_|refine zb ?_|refine zr (by first|exact decide_eq_true hd|exact decide_eq_false hop) ?_|refine zj (by first|exact decide_eq_true hd|exact decide_eq_false hop) ?_|refine zk (by first|exact decide_eq_true hd|exact decide_eq_false hop) ?_)
     conv=>whnf
     exact zf [0] h
   ·exact h.elim
end Go.Sym.Z
