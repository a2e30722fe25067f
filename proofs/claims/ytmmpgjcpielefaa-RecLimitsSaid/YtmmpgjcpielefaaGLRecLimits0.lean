/-
  Contracts of functions of the program, each said of symbolic values, and plain laws; no condition beyond each statement's own.
-/
import Derived.Test.YtmmpgjcpielefaaG15
set_option linter.unusedSimpArgs false
set_option linter.unusedVariables false
namespace Go.Sym.A
open Go Go.Proofs.Try Go.Sym.Lp Go.Sym.Cha Go.Sym.Sha Go.Sym.Hk Go.Sym.Gcm Go.Sym.Aes
set_option maxRecDepth 100000
def pl8:List (Nat×List PStep):= []
attribute [local irreducible] zb8 exF kyF ivF xl zap yv inL ncF lnz iA hA hN hK zy zaq hO hP hR hT iK z7
set_option maxHeartbeats 8000000 in
theorem zof (W:World) (size kind pad:Int):
    zil (zq6 f8.ntmps zl3 zes W []) pl8 (zbz f8) f8.results.toList [.int size,.int kind,.int pad] [] (fun r _=>r= .bool true):=by
  have b1:=Go.Sym.Ib.ibits_and (a:=size) (m:=7) (by decide) (by decide)
  have b2:=Go.Sym.Ib.ibits_and (a:=pad) (m:=16383) (by decide) (by decide)
  have b3:=Go.Sym.Ib.ibits_and (a:=kind) (m:=31) (by decide) (by decide)
  have b4:=Go.Sym.Ib.ibits_and (a:=pad) (m:=7) (by decide) (by decide)
  have hky:za7 4865 (kyF 4865 [107]) (ivF 4865 [107]) 0:=⟨.inl rfl,zfy _ _,zf5 _ _,by decide,by decide⟩
  refine wk ?_
  generalize ya .and size 7=a at*
  generalize ya .and pad 16383=p at*
  have k0:0≤ya .and kind 31∧ya .and kind 31≤31:=b3
  have hZl:((List.take (16381+a).toNat (List.drop (off []) (List.replicate (16381+a).toNat (0:UInt8)))).length:Int)=16381+a:=by
    show ((List.take _ (List.drop 0 _)).length:Int)=_
    rw [List.drop_zero,List.take_of_length_le (by rw [List.length_replicate];exact Nat.le_refl _),List.length_replicate];omega
  generalize List.take (16381+a).toNat (List.drop (off []) (List.replicate (16381+a).toNat (0:UInt8)))=Z at*
  have pq:0<p→(16381+a+1+p-1).tdiv p=(16381+a+1+p-1)/ p:=fun _=>Int.tdiv_eq_ediv_of_nonneg (by omega)
  have pd:0<p→p≠0∧yh ((16381+a+1+p-1).tdiv p):=fun h0=>by
    have:=Int.ediv_le_self p (show 0≤16381+a+1+p-1 by omega)
    have h2:=Int.ediv_nonneg (show 0≤16381+a+1+p-1 by omega) (show 0≤p by omega)
    rw [pq h0];exact ⟨by omega,by unfold yh;omega⟩
  have pmm:0<p→yh ((16381+a+1+p-1).tdiv p*p):=fun h0=>by
    have h1:=Int.ediv_mul_le (16381+a+1+p-1) (show p≠0 by omega)
    have h2:=Int.mul_nonneg (Int.ediv_nonneg (show 0≤16381+a+1+p-1 by omega) (show 0≤p by omega)) (show 0≤p by omega)
    rw [pq h0];unfold yh;omega
  have dk23:zw 23:=by decide
  have k3:ya .and kind 31<20∨23<ya .and kind 31∨(20≤ya .and kind 31∧ya .and kind 31≤23):=by omega
  have h8:([97]:List UInt8).length≤16384:=by decide
  have hpz:za7 4865 (kyF 4865 [107]) (ivF 4865 [107]) (0+1):=⟨.inl rfl,zfy _ _,zf5 _ _,by decide,by decide⟩
  have dn1:decide (0≤ -1-ya .and pad 7∧ -1-ya .and pad 7≤16384)=false:=decide_eq_false (by omega)
  have dn2:decide (0≤16385+ya .and pad 7∧16385+ya .and pad 7≤16384)=false:=decide_eq_false (by omega)
  by_cases ha:a≤3
  ·have df:decide (zw 23∧Z.length≤16384)=true:=decide_eq_true ⟨dk23,by omega⟩
   have hSl:=zdi (p:=p) (w:=4865) (key:=kyF 4865 [107]) (iv:=ivF 4865 [107]) (m:=0) (kind:=23) (s:=Z) (by omega) (by omega)
   have hpp:za7 4865 (kyF 4865 [107]) (ivF 4865 [107]) (0+1)∧0≤p∧p≤16384∧([97]:List UInt8).length≤140737488351232:=⟨hpz,by omega,by omega,by decide⟩
   rcases k3 with hk|hk|hk
   ·have dk:decide (zw (ya .and kind 31)∧([97]:List UInt8).length≤16384)=false:=decide_eq_false (fun hh=>by have:=hh.1;unfold zw at this;omega)
    repeat ((conv=>whnf);first|refine zn ?_|refine zf ?_|refine zg ?_|refine za ?_|refine zq (by first|exact df|exact dk|exact dn1|exact dn2) ?_|refine zi (by first|exact df|exact dk|exact dn1|exact dn2) ?_|refine zj (by first|exact df|exact dk|exact dn1|exact dn2) ?_)
    by_cases hp0:0<p
    ·have pd0:=pd hp0
     have pm0:=pmm hp0
     have eI:inL p Z.length=min ((16381+a+1+p-1).tdiv p*p) 16385:=by
       unfold inL;rw [if_pos hp0,hZl,pq hp0]
     have dS:decide (((zy p 4865 (kyF 4865 [107]) (ivF 4865 [107]) 0 23 Z).length:Int)=21+min ((16381+a+1+p-1).tdiv p*p) 16385)=true:=decide_eq_true (by omega)
     repeat ((conv=>whnf);first|refine zn ?_|refine zf ?_|refine zg ?_|refine za ?_|refine zq (by first|exact dS|(rw [dS];rfl)) ?_|refine zi (by first|exact dS|(rw [dS];rfl)) ?_|refine zj (by first|exact dS|(rw [dS];rfl)) ?_)
     conv=>whnf
     exact ze (hp':= []) [] rfl
    ·have eI:inL p Z.length=16381+a+1:=by unfold inL;rw [if_neg hp0,hZl]
     have dS:decide (((zy p 4865 (kyF 4865 [107]) (ivF 4865 [107]) 0 23 Z).length:Int)=21+(16381+a+1))=true:=decide_eq_true (by omega)
     repeat ((conv=>whnf);first|refine zn ?_|refine zf ?_|refine zg ?_|refine za ?_|refine zq (by first|exact dS|(rw [dS];rfl)) ?_|refine zi (by first|exact dS|(rw [dS];rfl)) ?_|refine zj (by first|exact dS|(rw [dS];rfl)) ?_)
     conv=>whnf
     exact ze (hp':= []) [] rfl
   ·have dk:decide (zw (ya .and kind 31)∧([97]:List UInt8).length≤16384)=false:=decide_eq_false (fun hh=>by have:=hh.1;unfold zw at this;omega)
    repeat ((conv=>whnf);first|refine zn ?_|refine zf ?_|refine zg ?_|refine za ?_|refine zq (by first|exact df|exact dk|exact dn1|exact dn2) ?_|refine zi (by first|exact df|exact dk|exact dn1|exact dn2) ?_|refine zj (by first|exact df|exact dk|exact dn1|exact dn2) ?_)
    by_cases hp0:0<p
    ·have pd0:=pd hp0
     have pm0:=pmm hp0
     have eI:inL p Z.length=min ((16381+a+1+p-1).tdiv p*p) 16385:=by
       unfold inL;rw [if_pos hp0,hZl,pq hp0]
     have dS:decide (((zy p 4865 (kyF 4865 [107]) (ivF 4865 [107]) 0 23 Z).length:Int)=21+min ((16381+a+1+p-1).tdiv p*p) 16385)=true:=decide_eq_true (by omega)
     repeat ((conv=>whnf);first|refine zn ?_|refine zf ?_|refine zg ?_|refine za ?_|refine zq (by first|exact dS|(rw [dS];rfl)) ?_|refine zi (by first|exact dS|(rw [dS];rfl)) ?_|refine zj (by first|exact dS|(rw [dS];rfl)) ?_)
     conv=>whnf
     exact ze (hp':= []) [] rfl
    ·have eI:inL p Z.length=16381+a+1:=by unfold inL;rw [if_neg hp0,hZl]
     have dS:decide (((zy p 4865 (kyF 4865 [107]) (ivF 4865 [107]) 0 23 Z).length:Int)=21+(16381+a+1))=true:=decide_eq_true (by omega)
     repeat ((conv=>whnf);first|refine zn ?_|refine zf ?_|refine zg ?_|refine za ?_|refine zq (by first|exact dS|(rw [dS];rfl)) ?_|refine zi (by first|exact dS|(rw [dS];rfl)) ?_|refine zj (by first|exact dS|(rw [dS];rfl)) ?_)
     conv=>whnf
     exact ze (hp':= []) [] rfl
   ·have dk:decide (zw (ya .and kind 31)∧([97]:List UInt8).length≤16384)=true:=decide_eq_true ⟨by unfold zw;omega,h8⟩
    repeat ((conv=>whnf);first|refine zn ?_|refine zf ?_|refine zg ?_|refine za ?_|refine zq (by first|exact df|exact dk|exact dn1|exact dn2) ?_|refine zi (by first|exact df|exact dk|exact dn1|exact dn2) ?_|refine zj (by first|exact df|exact dk|exact dn1|exact dn2) ?_)
    by_cases hp0:0<p
    ·have pd0:=pd hp0
     have pm0:=pmm hp0
     have eI:inL p Z.length=min ((16381+a+1+p-1).tdiv p*p) 16385:=by
       unfold inL;rw [if_pos hp0,hZl,pq hp0]
     have dS:decide (((zy p 4865 (kyF 4865 [107]) (ivF 4865 [107]) 0 23 Z).length:Int)=21+min ((16381+a+1+p-1).tdiv p*p) 16385)=true:=decide_eq_true (by omega)
     repeat ((conv=>whnf);first|refine zn ?_|refine zf ?_|refine zg ?_|refine za ?_|refine zq (by first|exact dS|(rw [dS];rfl)) ?_|refine zi (by first|exact dS|(rw [dS];rfl)) ?_|refine zj (by first|exact dS|(rw [dS];rfl)) ?_)
     conv=>whnf
     exact ze (hp':= []) [] rfl
    ·have eI:inL p Z.length=16381+a+1:=by unfold inL;rw [if_neg hp0,hZl]
     have dS:decide (((zy p 4865 (kyF 4865 [107]) (ivF 4865 [107]) 0 23 Z).length:Int)=21+(16381+a+1))=true:=decide_eq_true (by omega)
     repeat ((conv=>whnf);first|refine zn ?_|refine zf ?_|refine zg ?_|refine za ?_|refine zq (by first|exact dS|(rw [dS];rfl)) ?_|refine zi (by first|exact dS|(rw [dS];rfl)) ?_|refine zj (by first|exact dS|(rw [dS];rfl)) ?_)
     conv=>whnf
     exact ze (hp':= []) [] rfl
  ·have df:decide (zw 23∧Z.length≤16384)=false:=decide_eq_false (fun hh=>by omega)
   rcases k3 with hk|hk|hk
   ·have dk:decide (zw (ya .and kind 31)∧([97]:List UInt8).length≤16384)=false:=decide_eq_false (fun hh=>by have:=hh.1;unfold zw at this;omega)
    repeat ((conv=>whnf);first|refine zn ?_|refine zf ?_|refine zg ?_|refine za ?_|refine zq (by first|exact df|exact dk|exact dn1|exact dn2) ?_|refine zi (by first|exact df|exact dk|exact dn1|exact dn2) ?_|refine zj (by first|exact df|exact dk|exact dn1|exact dn2) ?_)
    by_cases hp0:0<p
    ·have pd0:=pd hp0
     have pm0:=pmm hp0
     refine wk ?_
     exact ze (hp':= []) [] rfl
    ·refine wk ?_
     exact ze (hp':= []) [] rfl
   ·have dk:decide (zw (ya .and kind 31)∧([97]:List UInt8).length≤16384)=false:=decide_eq_false (fun hh=>by have:=hh.1;unfold zw at this;omega)
    repeat ((conv=>whnf);first|refine zn ?_|refine zf ?_|refine zg ?_|refine za ?_|refine zq (by first|exact df|exact dk|exact dn1|exact dn2) ?_|refine zi (by first|exact df|exact dk|exact dn1|exact dn2) ?_|refine zj (by first|exact df|exact dk|exact dn1|exact dn2) ?_)
    by_cases hp0:0<p
    ·have pd0:=pd hp0
     have pm0:=pmm hp0
     refine wk ?_
     exact ze (hp':= []) [] rfl
    ·refine wk ?_
     exact ze (hp':= []) [] rfl
   ·have dk:decide (zw (ya .and kind 31)∧([97]:List UInt8).length≤16384)=true:=decide_eq_true ⟨by unfold zw;omega,h8⟩
    repeat ((conv=>whnf);first|refine zn ?_|refine zf ?_|refine zg ?_|refine za ?_|refine zq (by first|exact df|exact dk|exact dn1|exact dn2) ?_|refine zi (by first|exact df|exact dk|exact dn1|exact dn2) ?_|refine zj (by first|exact df|exact dk|exact dn1|exact dn2) ?_)
    by_cases hp0:0<p
    ·have pd0:=pd hp0
     have pm0:=pmm hp0
     refine wk ?_
     exact ze (hp':= []) [] rfl
    ·refine wk ?_
     exact ze (hp':= []) [] rfl
theorem zmm (W:World) (size:Int) (_: -9223372036854775808≤size∧size≤9223372036854775807) (kind:Int) (_: -9223372036854775808≤kind∧kind≤9223372036854775807) (pad:Int) (_: -9223372036854775808≤pad∧pad≤9223372036854775807):
    zil (zq6 f8.ntmps zl3 zes W []) pl8 (zbz f8) f8.results.toList [.int size,.int kind,.int pad] [] (fun r _=>r= .bool true):=zof W size kind pad
end Go.Sym.A
