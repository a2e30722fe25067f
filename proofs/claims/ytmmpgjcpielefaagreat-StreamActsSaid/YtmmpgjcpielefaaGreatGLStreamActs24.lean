/-
  Contracts of functions of the program, each said of symbolic values, and plain laws; no condition beyond each statement's own.
-/
import Derived.Test.YtmmpgjcpielefaaGreatGLStreamActs23
import Derived.Test.YtmmpgjcpielefaaGreatGLStreamActs16
set_option linter.unusedSimpArgs false
set_option linter.unusedVariables false
namespace Go.Sym.Z
open Go Go.Proofs.Tryz Go.Sym.Lp Go.Sym.Cha Go.Sym.Sha Go.Sym.Hk
set_option maxRecDepth 100000
attribute [local irreducible] x3 exF
def yho:List (Nat×List PStep):= []
def ylw:List (Nat×List PStep):= []
def yl0:List (Nat×List PStep):= []
def yk5:List (Nat×List PStep):= []
def ymg:List (Nat×List PStep):= [(5,[⟨0,[]⟩,⟨1,[0]⟩,⟨2,[0]⟩,⟨3,[0]⟩,⟨4,[0,1,2,3]⟩,⟨5,[0]⟩,⟨6,[]⟩,⟨7,[]⟩,⟨8,[0,1,2,3,4,5,6,7]⟩,⟨9,[0,1,2,3,4,5,6,7]⟩,⟨10,[0,1,2,3,4,5,6,7]⟩,⟨11,[0,1,2,3,4,5,6,7]⟩,⟨12,[0,1,2,3,4,5,6,7,8,9,10,11]⟩,⟨13,[0,1,2,3,4,5,6,7,8,9,10,11]⟩,⟨14,[0,1,2,3,4,5,6,7]⟩,⟨15,[0,1,2,3,4,5,6,7]⟩,⟨16,[]⟩,⟨17,[]⟩,⟨18,[]⟩])]
def yln:List (Nat×List PStep):= []
def yhh:List (Nat×TyI):= [(3,ty3),(4,ty4),(5,ty5),(9,ty9),(48,zd6),(51,zeb),(113,xw),(99,xj),(103,zgc),(68,zmk),(70,zmn),(104,zgh),(74,zx0),(23,zyb),(43,zlv)]
theorem zb4: ∀t i,y8 yhh t=some i→yt prog t i:=(zc zbg (zc zbj (zc zbc (zc zbf (zc zaq (zc zap (zc zai (zc za6 (zc ze7 (zc zhz (zc zhv (zc zfh (zc yb8 (zc ybu (zc zf5 x1)))))))))))))))
def su (w:Int):Prop:=w=4865∨w=4866∨w=4867
instance (w:Int):Decidable (su w):=by unfold su;exact inferInstance
def hB (w:Int):Int:=if w=4866 then 384 else 256
theorem z07 (w:Int):hB w=256∨hB w=384:=by unfold hB;split<;>simp
def zrw:Spec:=fun args hp K=>match args,hp with
  | [.int w],[]=>ye (decide (su w)) (K (.tup [.int (hB w),.int 0]) []) (K (.tup [.int 0,.int 1900]) [])
  |_,_=>False
theorem ycl:zp prog 113 zrw:=by
  refine zm zb4 (zd zs8 zi) rfl func113 rfl call113 (D:=yho) ?_ ?_
  ·intro args hp K h
   unfold zrw at h
   split at h
   ·exact Nat.le_of_ble_eq_true rfl
   ·exact h.elim
  ·intro args hp K h
   unfold zrw at h
   split at h
   ·rename_i w
    obtain ⟨ht,hf⟩:=z8 h
    have four:w=4865∨w=4866∨w=4867∨(w≠4865∧w≠4866∧w≠4867):=by omega
    rcases four with h0|h0|h0|⟨h0,h1,h2⟩
    ·have h:=ht (decide_eq_true (.inl h0))
     rw [show hB w=256 by unfold hB;rw [if_neg (by omega)]] at h
     refine za ?_
     exact zf [] h
    ·have h:=ht (decide_eq_true (.inr (.inl h0)))
     rw [show hB w=384 by unfold hB;rw [if_pos h0]] at h
     refine za ?_
     exact zf [] h
    ·have h:=ht (decide_eq_true (.inr (.inr h0)))
     rw [show hB w=256 by unfold hB;rw [if_neg (by omega)]] at h
     refine za ?_
     exact zf [] h
    ·have h:=hf (decide_eq_false (by unfold su;omega))
     refine za ?_
     exact zf [] h
   ·exact h.elim
def zhl:Spec:=fun args hp K=>match args,hp with
  | [.int w,.str key,.str label,.str ctx,.int size],[]=>Pre (key.length≤140737488351232∧label.length≤100∧ctx.length≤255∧0≤size∧size≤1000)
      (ye (decide (su w)) (K (.tup [.str (x3 (hB w) key label ctx size.toNat),.int 0]) []) (K (.tup [.str [],.int 1900]) []))
  |_,_=>False
theorem z53:zp prog 86 zhl:=by
  refine zm zb4 (zd ycl (zd ycq zi)) rfl func86 rfl call86 (D:=ylw) ?_ ?_
  ·intro args hp K h
   unfold zhl at h
   split at h
   ·exact Nat.le_of_ble_eq_true rfl
   ·exact h.elim
  ·intro args hp K h
   unfold zhl at h
   split at h
   ·rename_i w key label ctx size
    obtain ⟨⟨hk,hl,hc,hs0,hs⟩,h⟩:=zq h
    obtain ⟨ht,hf⟩:=z8 h
    have hp:(hB w=256∨hB w=384)∧key.length≤140737488351232∧label.length≤100∧ctx.length≤255∧0≤size∧size≤1000:=⟨z07 w,hk,hl,hc,hs0,hs⟩
    generalize e:decide (su w)=c at ht hf
    cases c
    ·have h:=hf rfl
     refine za ?_
     exact zf [] h
    ·have h:=ht rfl
     refine za ?_
     exact zf [] h
   ·exact h.elim
def aSz (w:Int):Nat:=if w=4865 then 16 else 32
def kyF (w:Int) (s:List UInt8):List UInt8:=x3 (hB w) s [107,101,121] [] (aSz w)
def ivF (w:Int) (s:List UInt8):List UInt8:=x3 (hB w) s [105,118] [] 12
theorem z0f (w:Int) (s:List UInt8):(kyF w s).length=aSz w:=zu0 (z07 w) _ _ _ _
theorem z1f (w:Int) (s:List UInt8):(ivF w s).length=12:=zu0 (z07 w) _ _ _ _
def zr1:Spec:=fun args hp K=>match args,hp with
  | [.int w,.str s],[]=>Pre (s.length≤140737488351232)
      (ye (decide (su w)) (K (.tup [.str (kyF w s),.str (ivF w s),.int 0]) []) (K (.tup [.str [],.str [],.int 1900]) []))
  |_,_=>False
theorem yfp:zp prog 62 zr1:=by
  refine zm zb4 (zd zs8 (zd z53 zi)) rfl func62 rfl call62 (D:=yl0) ?_ ?_
  ·intro args hp K h
   unfold zr1 at h
   split at h
   ·exact Nat.le_of_ble_eq_true rfl
   ·exact h.elim
  ·intro args hp K h
   unfold zr1 at h
   split at h
   ·rename_i w s
    obtain ⟨hs,h⟩:=zq h
    obtain ⟨ht,hf⟩:=z8 h
    have four:w=4865∨w=4866∨w=4867∨(w≠4865∧w≠4866∧w≠4867):=by omega
    rcases four with h0|h0|h0|⟨h0,h1,h2⟩
    ·have hd:decide (su w)=true:=decide_eq_true (.inl h0)
     have h:=ht hd
     rw [show kyF w s=x3 (hB w) s [107,101,121] [] (Int.toNat 16) by unfold kyF aSz;rw [if_pos h0];rfl,show ivF w s=x3 (hB w) s [105,118] [] (Int.toNat 12) by unfold ivF;rfl] at h
     refine za ?_
     exact zf [] h
    ·have hd:decide (su w)=true:=decide_eq_true (.inr (.inl h0))
     have h:=ht hd
     rw [show kyF w s=x3 (hB w) s [107,101,121] [] (Int.toNat 32) by unfold kyF aSz;rw [if_neg (by omega)];rfl,show ivF w s=x3 (hB w) s [105,118] [] (Int.toNat 12) by unfold ivF;rfl] at h
     refine za ?_
     exact zf [] h
    ·have hd:decide (su w)=true:=decide_eq_true (.inr (.inr h0))
     have h:=ht hd
     rw [show kyF w s=x3 (hB w) s [107,101,121] [] (Int.toNat 32) by unfold kyF aSz;rw [if_neg (by omega)];rfl,show ivF w s=x3 (hB w) s [105,118] [] (Int.toNat 12) by unfold ivF;rfl] at h
     refine za ?_
     exact zf [] h
    ·have hd:decide (su w)=false:=decide_eq_false (by unfold su;omega)
     have h:=hf hd
     refine za ?_
     exact zf [] h
   ·exact h.elim
attribute [local irreducible] kyF ivF
def zpb:Spec:=fun args hp K=>match args,hp with
  | [.int w,.str s],[]=>Pre (s.length≤140737488351232)
      (ye (decide (su w)) (K (.tup [.ptr 0 0 0 [],.int 0]) [.mk 103 [.int w,.str (kyF w s),.str (ivF w s),.int 0]]) (K (.tup [.nilptr,.int 2100]) []))
  |_,_=>False
theorem zro:zp prog 42 zpb:=by
  refine zm zb4 (zd yfp zi) rfl func42 rfl call42 (D:=yk5) ?_ ?_
  ·intro args hp K h
   unfold zpb at h
   split at h
   ·exact Nat.le_of_ble_eq_true rfl
   ·exact h.elim
  ·intro args hp K h
   unfold zpb at h
   split at h
   ·rename_i w s
    obtain ⟨hs,h⟩:=zq h
    obtain ⟨ht,hf⟩:=z8 h
    generalize e:decide (su w)=c at ht hf
    cases c
    ·have h:=hf rfl
     refine za ?_
     exact zf [] h
    ·have h:=ht rfl
     refine za ?_
     exact zf [0] h
   ·exact h.elim
def yv (k:Int):Prop:=k=20∨k=21∨k=22∨k=23
instance (k:Int):Decidable (yv k):=by unfold yv;exact inferInstance
def zy2:Spec:=fun args hp K=>match args,hp with
  | [.int k],[]=>K (.bool (decide (yv k))) []
  |_,_=>False
theorem z1l:zp prog 63 zy2:=by
  refine zm zb4 zi rfl func63 rfl call63 (D:=yln) ?_ ?_
  ·intro args hp K h
   unfold zy2 at h
   split at h
   ·exact Nat.le_of_ble_eq_true rfl
   ·exact h.elim
  ·intro args hp K h
   unfold zy2 at h
   split at h
   ·rename_i k
    have zeh:k=20∨k=21∨k=22∨k=23∨(k≠20∧k≠21∧k≠22∧k≠23):=by omega
    rcases zeh with h0|h0|h0|h0|⟨h0,h1,h2,h3⟩
    ·rw [decide_eq_true (show yv k by unfold yv;omega)] at h
     refine za ?_
     exact zf [] h
    ·rw [decide_eq_true (show yv k by unfold yv;omega)] at h
     refine za ?_
     exact zf [] h
    ·rw [decide_eq_true (show yv k by unfold yv;omega)] at h
     refine za ?_
     exact zf [] h
    ·rw [decide_eq_true (show yv k by unfold yv;omega)] at h
     refine za ?_
     exact zf [] h
    ·rw [decide_eq_false (show ¬yv k by unfold yv;omega)] at h
     refine za ?_
     exact zf [] h
   ·exact h.elim
def zpe (iv:List UInt8) (many:Int):Nat→List UInt8
  |0=>iv
  |i+1=>(zpe iv many i).set (12-1-i) ((zpe iv many i).getD (12-1-i) 0^^^UInt8.ofInt (many/ 2^(8*i)))
theorem zjn (iv:List UInt8) (many:Int): ∀i,(zpe iv many i).length=iv.length
  |0=>rfl
  |i+1=>by simp only [zpe,List.length_set];exact zjn iv many i
def ncF (iv:List UInt8) (many:Int):List UInt8:=zpe iv many 8
theorem zms (iv:List UInt8) (many:Int):(ncF iv many).length=iv.length:=zjn _ _ _
def zyt:Spec:=fun args hp K=>match args,hp with
  | [.ptr 0 0 0 []],[.mk t [.int w,.str key,.str iv,.int many]]=>Pre (iv.length=12) (K (.str (ncF iv many)) [.mk t [.int w,.str key,.str iv,.int many]])
  |_,_=>False
theorem z1k:zp prog 67 zyt:=by
  refine zm zb4 zi rfl func67 rfl call67 (D:=ymg) ?_ ?_
  ·intro args hp K h
   unfold zyt at h
   split at h
   ·exact Nat.le_of_ble_eq_true rfl
   ·exact h.elim
  ·intro args hp K h
   unfold zyt at h
   split at h
   ·rename_i t w key iv many
    obtain ⟨hiv,h⟩:=zq h
    refine za ?_
    refine yi fun tl=>?_
    refine za ?_
    refine zt (Ix (8)) (fun q=>⟨[(3,.sl 1 0 0 [] iv.length (iv.length+tl.length)),(10,.int q.i),(0,.ptr 0 0 0 [])],[.mk t [.int w,.str key,.str iv,.int many],.mk 5 [.arr8 (iv.length+tl.length) (zpe iv many q.i++tl)]]⟩) (fun q=>(8)-q.i) ⟨0,Nat.zero_le _⟩ [0,1] ?_ ?_
    ·exact zn
    ·intro q
     have hi:=q.hi
     have hl:=zjn iv many q.i
     rw [hiv] at hl
     have hla:(zpe iv many q.i++tl).length=12+tl.length:=by rw [List.length_append,hl]
     have hof:off (yb [] ((iv.length:Int)-1-(q.i:Int)).toNat ty5.sz)=12-1-q.i:=by rw [zy];show 0+((iv.length:Int)-1-(q.i:Int)).toNat*1=_;omega
     have hk:(8*(q.i:Int)).toNat=8*q.i:=by omega
     by_cases h4:q.i<8
     ·refine za ?_
      refine ⟨⟨q.i+1,h4⟩,[0,1],by show (8)-(q.i+1)<(8)-q.i;omega,?_⟩
      repeat ((conv=>whnf);refine zb ?_)
      conv=>whnf
      exact zo (congrArg (fun x=>SV.agg [SV.arr8 (iv.length+tl.length) x]) (show _=zpe iv many (q.i+1)++tl by simp only [zpe];rw [hof,hk,List.set_append_left _ _ (by omega),List.getD_eq_getElem?_getD,List.getElem?_append_left (by omega),←List.getD_eq_getElem?_getD]))
     ·have e4:q.i=8:=by omega
      have hF:List.take iv.length (List.drop (off []) (zpe iv many 8++tl))=ncF iv many:=List.take_left' (zjn iv many 8)
      rw [e4] at hla
      have hpo:off []+iv.length≤(zpe iv many 8++tl).length:=by rw [hla,hiv];show 0+12≤_;omega
      rw [e4]
      refine za ?_
      rw [hF]
      conv=>whnf
      exact zf [0] h
   ·exact h.elim
end Go.Sym.Z

namespace Go.Sym.Z
open Go Go.Proofs.Tryz Go.Sym.Lp Go.Sym.Aes
set_option maxRecDepth 100000
attribute [local irreducible] box tw rc ks
def ygw:List (Nat×List PStep):= []
def ylp:List (Nat×List PStep):= [(6,[⟨0,[]⟩,⟨1,[0]⟩,⟨2,[0,1]⟩,⟨3,[0,1]⟩,⟨4,[0]⟩,⟨5,[0,1,2,3,4]⟩,⟨6,[0,1,2,3,4,5]⟩,⟨7,[0,1,2,3,4,5]⟩,⟨8,[0,1,2,3,4,5]⟩,⟨9,[0,1,2,3,4]⟩,⟨10,[0,1,2,3,4,5,6,7,8,9]⟩,⟨11,[0,1,2,3,4,5,6,7,8,9,10]⟩,⟨12,[0,1,2,3,4,5,6,7,8,9,10]⟩,⟨13,[0,1,2,3,4,5,6,7,8,9,10]⟩,⟨14,[0,1,2,3,4,5,6,7,8,9]⟩,⟨15,[0,1,2,3,4,5,6,7,8,9,10,11,12,13,14]⟩,⟨16,[0,1,2,3,4,5,6,7,8,9,10,11,12,13,14,15]⟩,⟨17,[0,1,2,3,4,5,6,7,8,9,10,11,12,13,14,15]⟩,⟨18,[0,1,2,3,4,5,6,7,8,9,10,11,12,13,14,15]⟩,⟨19,[0,1,2,3,4,5,6,7,8,9,10,11,12,13,14]⟩,⟨20,[0]⟩,⟨21,[0]⟩,⟨22,[]⟩,⟨23,[]⟩]),(13,[⟨0,[]⟩,⟨1,[]⟩,⟨2,[]⟩,⟨3,[0,1,2]⟩,⟨4,[]⟩,⟨5,[0,1,2,3,4]⟩,⟨6,[0,1,2,3,4]⟩,⟨7,[0,1,2,3,4]⟩,⟨8,[0,1,2,3,4,5,6,7]⟩,⟨9,[0,1,2,3,4,5,6,7]⟩,⟨10,[0,1,2,3,4,5,6,7]⟩,⟨11,[0,1,2,3,4,5,6,7,8,9,10]⟩,⟨12,[0,1,2,3,4,5,6,7,8,9,10]⟩,⟨13,[0,1,2,3,4,5,6,7,8,9,10]⟩,⟨14,[]⟩,⟨15,[]⟩]),(16,[⟨0,[]⟩,⟨1,[]⟩,⟨2,[]⟩,⟨3,[0,1,2]⟩,⟨4,[0,1,2]⟩,⟨5,[0,1,2]⟩,⟨6,[0,1,2,3,4,5]⟩,⟨7,[0,1,2,3,4,5]⟩,⟨8,[0,1,2,3,4,5]⟩,⟨9,[0,1,2,3,4,5,6,7,8]⟩,⟨10,[0,1,2,3,4,5,6,7,8]⟩,⟨11,[0,1,2,3,4,5,6,7,8]⟩,⟨12,[]⟩,⟨13,[]⟩]),(20,[⟨0,[]⟩,⟨1,[0]⟩,⟨2,[0]⟩,⟨3,[0]⟩,⟨4,[0,1,2,3]⟩,⟨5,[0,1,2,3,4]⟩,⟨6,[0,1,2,3,4,5]⟩,⟨7,[0,1,2,3,4]⟩,⟨8,[0,1,2,3,4,5,6,7]⟩,⟨9,[0,1,2,3,8]⟩,⟨10,[0,1,2,3]⟩,⟨11,[0,1,2,3]⟩,⟨12,[0]⟩,⟨13,[]⟩,⟨14,[]⟩])]
def zt2:Spec:=fun args hp K=>match args,hp with
  | [.u8 x],[]=>K (.u8 (tw x)) []
  |_,_=>False
theorem zvu:zp prog 106 zt2:=by
  refine zm zdk zi rfl func106 rfl call106 (D:=ygw) ?_ ?_
  ·intro args hp K h
   unfold zt2 at h
   split at h
   ·exact Nat.le_of_ble_eq_true rfl
   ·exact h.elim
  ·intro args hp K h
   unfold zt2 at h
   split at h
   ·rename_i x
    by_cases hx:127<x.toNat
    ·have hd:decide (UInt8.ofNat 127<x)=true:=decide_eq_true (by rw [UInt8.lt_iff_toNat_lt];exact hx)
     repeat ((conv=>whnf);first|refine zu ?_|refine zg ?_|refine zh ?_|refine zb ?_|refine zr (by first|exact hd) ?_|refine zj (by first|exact hd) ?_|refine zk (by first|exact hd) ?_)
     conv=>whnf
     rw [yhn hx] at h
     conv=>whnf
     exact zf [] h
    ·have hd:decide (UInt8.ofNat 127<x)=false:=decide_eq_false (by rw [UInt8.lt_iff_toNat_lt];exact hx)
     repeat ((conv=>whnf);first|refine zu ?_|refine zg ?_|refine zh ?_|refine zb ?_|refine zr (by first|exact hd) ?_|refine zj (by first|exact hd) ?_|refine zk (by first|exact hd) ?_)
     conv=>whnf
     rw [yj4 hx] at h
     conv=>whnf
     exact zf [] h
   ·exact h.elim
structure Wx (n:Nat) where
  i:Nat
  hi:i≤n
  t:Tl UInt8 4
structure Wz (n m:Nat) where
  i:Nat
  h1:n≤i
  h2:i≤m
  t:Tl UInt8 4
def zut:Spec:=fun args hp K=>match args,hp with
  | [.str key],[]=>Pre (key.length=16∨key.length=32) (zaz fun x:Tl UInt8 4=>K (.sl 0 0 0 [] (key.length+28) (key.length+28+x.t)) [.mk 148 [.arr8 (4*(key.length+28)+x.t*4) (ks key (key.length/ 4) (key.length+28)++x.l)]])
  |_,_=>False
set_option maxHeartbeats 8000000 in
theorem zve:zp prog 77 zut:=by
  refine zm zdk (zd zvu zi) rfl func77 rfl call77 (D:=ylp) ?_ ?_
  ·intro args hp K h
   unfold zut at h
   split at h
   ·exact Nat.le_of_ble_eq_true rfl
   ·exact h.elim
  ·intro args hp K h
   unfold zut at h
   split at h
   ·rename_i key
    obtain ⟨hk,h⟩:=zq h
    have hB:=zmz
    rcases hk with hk|hk
    ·have hkn:key.length=4*4:=hk
     have hq:(key.length:Int).tdiv 4=4:=by rw [hk];rfl
     have hf:ya ((key.length:Int).tdiv 4):=by rw [hq];unfold ya;omega
     have hf2:(4:Int)≠0∧ya ((key.length:Int).tdiv 4):=⟨by decide,hf⟩
     have h:=x0 h
     rw [hk] at h
     replace h: ∀x:Tl UInt8 4,K (.sl 0 0 0 [] 44 (44+x.t)) [.mk 148 [.arr8 (4*44+x.t*4) (ks key 4 44++x.l)]]:=h
     refine za ?_
     rw [hq]
     refine za ?_
     refine zt (Option (Wx 4)) (fun q=>match q with
       |none=>⟨[(0,.str key),(3,.int 4),(4,.nilsl),(5,.int 0)],[]⟩
       |some s=>⟨[(0,.str key),(3,.int 4),(4,.sl 0 0 0 [] s.i (s.i+s.t.t)),(5,.int s.i)],[.mk 148 [.arr8 (4*s.i+s.t.t*4) (ks key 4 s.i++s.t.l)]]⟩)
       (fun q=>match q with|none=>4+1|some s=>4-s.i) none [] ?_ ?_
     ·exact zn
     ·intro q
      cases q with
      |none=>
       refine za ?_
       refine yi fun x=>?_
       refine za ?_
       refine ⟨some ⟨1,by decide,x⟩,[1],by show 4-1<4+1;omega,?_⟩
       repeat ((conv=>whnf);refine zb ?_)
       conv=>whnf
       refine zv (zqx rfl ?hl) ?_
       case hl=>
         show [key.getD 0 0,key.getD 1 0,key.getD 2 0,key.getD 3 0]++x.l=ks key 4 1++x.l
         rw [zdr key 4 0,z1s]
         unfold xl
         rw [if_pos (by decide),take4 (by omega)];rfl
       exact zn
      |some s=>
       have hi:=s.hi
       have hl:=zbm hkn s.i
       have ht:=s.t.h
       have hI:((s.i:Int)).toNat=s.i:=Int.toNat_natCast _
       by_cases h4:s.i<4
       ·refine za ?_
        refine zr ⟨Nat.le_add_right _ _,by show 4*s.i+s.t.t*4=(s.i+s.t.t)*4;omega,by decide,by show (s.i+1)*4≤_;omega⟩ ?_
        refine za ?_
        refine yi fun x=>?_
        refine za ?_
        refine ⟨some ⟨s.i+1,h4,x⟩,[2],by show 4-(s.i+1)<4-s.i;omega,?_⟩
        repeat ((conv=>whnf);refine zb ?_)
        conv=>whnf
        refine zv (zqx (by show s.i*4+1*4+x.t*4=4*(s.i+1)+x.t*4;omega) ?hl) ?_
        case hl=>
          show List.take (s.i*4) (ks key 4 s.i++s.t.l)++ [key.getD (4*s.i) 0,key.getD (4*s.i+1) 0,key.getD (4*s.i+2) 0,key.getD (4*s.i+3) 0]++x.l=ks key 4 (s.i+1)++x.l
          rw [List.take_left' (by rw [hl];omega)]
          rw [zdr]
          unfold xl
          rw [if_pos h4,take4 (by omega)]
        exact zn
       ·have e4:s.i=4:=by omega
        obtain ⟨si,shi,st⟩:=s
        replace e4:si=4:=e4
        subst e4
        clear hi hI h4 hl ht
        refine za ?_
        refine zt (Wz 4 44) (fun s=>⟨[(0,.str key),(3,.int 4),(4,.sl 0 0 0 [] s.i (s.i+s.t.t)),(6,.u8 (rc ((s.i-1)/ 4))),(7,.int s.i)],[.mk 148 [.arr8 (4*s.i+s.t.t*4) (ks key 4 s.i++s.t.l)]]⟩)
          (fun s=>44-s.i) ⟨4,by decide,by decide,st⟩ [0] ?_ ?_
        ·repeat ((conv=>whnf);refine zb ?_)
         conv=>whnf
         exact zo (congrArg SV.u8 (by show UInt8.ofNat 1=rc ((4-1)/ 4);rw [show (4-1)/ 4=0 by decide];unfold rc;rfl))
        ·intro s
         have hi1:=s.h1
         have hi2:=s.h2
         have hl:=zbm hkn s.i
         have ht:=s.t.h
         have hI:((s.i:Int)).toNat=s.i:=Int.toNat_natCast _
         have hm0:((s.i:Int)).tmod 4=((s.i%4:Nat):Int):=by rw [Int.tmod_eq_emod_of_nonneg (by omega)];omega
         by_cases h4:s.i<44
         ·obtain ⟨T,hT⟩: ∃T,T=((ks key 4 s.i).drop (4*(s.i-1))).take 4:=⟨_,rfl⟩
          have hTl:T.length=4:=by rw [hT,List.length_take,List.length_drop,zbm hkn];omega
          have tT:List.take zbu.sz (List.drop (off (yb [] ((s.i:Int)-1).toNat zbu.sz)) (ks key 4 s.i++s.t.l))=T:=by
            rw [hT]
            show List.take 4 (List.drop (((s.i:Int)-1).toNat*4) _)=_
            rw [show ((s.i:Int)-1).toNat*4=4*(s.i-1) by omega,List.drop_append_of_le_length (by omega),List.take_append_of_le_length (by rw [List.length_drop];omega)]
          have hnx:(List.range 4).map (fun k=>(ks key 4 s.i).getD (4*(s.i-4)+k) 0^^^(x4 4 s.i T).getD k 0)=xl key 4 s.i (ks key 4 s.i):=by
            unfold xl;rw [if_neg (by omega),←hT]
          by_cases h6:s.i%4=0
          ·refine za ?_
           rw [ycc,tT]
           refine zt (Ix (4)) (fun r=>⟨[(0,.str key),(3,.int 4),(4,.sl 0 0 0 [] s.i (s.i+s.t.t)),(6,.u8 (tw (rc ((s.i-1)/ 4)))),(7,.int s.i),(8,.ptr 1 0 0 []),(9,.int r.i)],[.mk 148 [.arr8 (4*s.i+s.t.t*4) (ks key 4 s.i++s.t.l)],.mk 148 [.arr8 4 (ovr (x4 4 s.i T) 0 (fun k=>(ks key 4 s.i).getD (4*(s.i-4)+k) 0^^^(x4 4 s.i T).getD k 0) r.i)]]⟩) (fun r=>(4)-r.i) ⟨0,Nat.zero_le _⟩ [0,1] ?_ ?_
           ·repeat ((conv=>whnf);refine zb ?_)
            conv=>whnf
            exact zo (by show _=SV.agg [SV.arr8 4 (ovr _ 0 _ 0)];rw [zaj];unfold x4;rw [if_pos h6];rfl)
           ·intro r
            have hri:=r.hi
            have hJ:((r.i:Int)).toNat=r.i:=Int.toNat_natCast _
            have hTW:=zby (n:=4) (i:=s.i) hTl
            have hlo:=yg (l:=x4 4 s.i T) (a:=0) (i:=r.i) (by omega) (fun k=>(ks key 4 s.i).getD (4*(s.i-4)+k) 0^^^(x4 4 s.i T).getD k 0)
            have hWl:(ks key 4 s.i++s.t.l).length=4*s.i+s.t.t*4:=by rw [List.length_append,hl,ht]
            by_cases h7:r.i<4
            ·refine za ?_
             refine ⟨⟨r.i+1,h7⟩,[0,1],by show (4)-(r.i+1)<(4)-r.i;omega,?_⟩
             repeat ((conv=>whnf);refine zb ?_)
             conv=>whnf
             refine zv (congrArg (fun x=>SV.agg [SV.arr8 4 x]) (z9 (by omega) ?hv ?hkk)) ?_
             case hkk=>show r.i=0+r.i;omega
             case hv=>
               show List.getD (ovr _ _ _ _) r.i 0^^^List.getD (ks key 4 s.i++s.t.l) (((s.i:Int)-4).toNat*4+r.i) 0=_
               rw [yw (by omega) _ (by omega),show ((s.i:Int)-4).toNat*4+r.i=4*(s.i-4)+r.i by omega,List.getD_eq_getElem?_getD (l:=_++_),List.getElem?_append_left (by omega),←List.getD_eq_getElem?_getD,UInt8.xor_comm]
             exact zn
            ·have e7:r.i=4:=by omega
             rw [e7,y4 hTW,hnx]
             have hNl:=zcv (i:=s.i) hkn (ks key 4 s.i)
             have eSp:zx (List.replicate (1*4) 0) (off [(0,zbu.sz)]) (xl key 4 s.i (ks key 4 s.i))=xl key 4 s.i (ks key 4 s.i):=by
               show List.take 0 _++xl key 4 s.i (ks key 4 s.i)++List.drop (0+_) (List.replicate 4 0)=_
               rw [hNl];simp
             refine za ?_
             rw [eSp]
             refine za ?_
             refine zr ⟨Nat.le_add_right _ _,by show 4*s.i+s.t.t*4=(s.i+s.t.t)*4;omega,by decide,by show (s.i+1)*4≤_;omega⟩ ?_
             refine za ?_
             refine yi fun x=>?_
             refine za ?_
             refine ⟨⟨s.i+1,by omega,h4,x⟩,[3],by show 44-(s.i+1)<44-s.i;omega,?_⟩
             repeat ((conv=>whnf);refine zb ?_)
             conv=>whnf
             refine zv (zqx (by show s.i*4+1*4+x.t*4=4*(s.i+1)+x.t*4;omega) ?hl) ?_
             case hl=>
               show List.take (s.i*4) (ks key 4 s.i++s.t.l)++List.take (1*4) (xl key 4 s.i (ks key 4 s.i))++x.l=ks key 4 (s.i+1)++x.l
               rw [List.take_left' (by rw [hl];omega),zdr,List.take_of_length_le (by omega)]
             repeat ((conv=>whnf);refine zb ?_)
             conv=>whnf
             exact zo (congrArg SV.u8 (by show (tw (rc ((s.i-1)/ 4)))=rc ((s.i+1-1)/ 4);rw [Nat.add_sub_cancel,zna (by omega) (by omega) h6]))
          ·refine za ?_
           rw [tT]
           refine zt (Ix (4)) (fun r=>⟨[(0,.str key),(3,.int 4),(4,.sl 0 0 0 [] s.i (s.i+s.t.t)),(6,.u8 (rc ((s.i-1)/ 4))),(7,.int s.i),(8,.ptr 1 0 0 []),(9,.int r.i)],[.mk 148 [.arr8 (4*s.i+s.t.t*4) (ks key 4 s.i++s.t.l)],.mk 148 [.arr8 4 (ovr (x4 4 s.i T) 0 (fun k=>(ks key 4 s.i).getD (4*(s.i-4)+k) 0^^^(x4 4 s.i T).getD k 0) r.i)]]⟩) (fun r=>(4)-r.i) ⟨0,Nat.zero_le _⟩ [0,1] ?_ ?_
           ·repeat ((conv=>whnf);refine zb ?_)
            conv=>whnf
            exact zo (by show SV.agg [SV.arr8 4 T]=SV.agg [SV.arr8 4 (ovr _ 0 _ 0)];rw [zaj];unfold x4;rw [if_neg h6,if_neg (fun h=>absurd h.1 (by decide))])
           ·intro r
            have hri:=r.hi
            have hJ:((r.i:Int)).toNat=r.i:=Int.toNat_natCast _
            have hTW:=zby (n:=4) (i:=s.i) hTl
            have hlo:=yg (l:=x4 4 s.i T) (a:=0) (i:=r.i) (by omega) (fun k=>(ks key 4 s.i).getD (4*(s.i-4)+k) 0^^^(x4 4 s.i T).getD k 0)
            have hWl:(ks key 4 s.i++s.t.l).length=4*s.i+s.t.t*4:=by rw [List.length_append,hl,ht]
            by_cases h7:r.i<4
            ·refine za ?_
             refine ⟨⟨r.i+1,h7⟩,[0,1],by show (4)-(r.i+1)<(4)-r.i;omega,?_⟩
             repeat ((conv=>whnf);refine zb ?_)
             conv=>whnf
             refine zv (congrArg (fun x=>SV.agg [SV.arr8 4 x]) (z9 (by omega) ?hv ?hkk)) ?_
             case hkk=>show r.i=0+r.i;omega
             case hv=>
               show List.getD (ovr _ _ _ _) r.i 0^^^List.getD (ks key 4 s.i++s.t.l) (((s.i:Int)-4).toNat*4+r.i) 0=_
               rw [yw (by omega) _ (by omega),show ((s.i:Int)-4).toNat*4+r.i=4*(s.i-4)+r.i by omega,List.getD_eq_getElem?_getD (l:=_++_),List.getElem?_append_left (by omega),←List.getD_eq_getElem?_getD,UInt8.xor_comm]
             exact zn
            ·have e7:r.i=4:=by omega
             rw [e7,y4 hTW,hnx]
             have hNl:=zcv (i:=s.i) hkn (ks key 4 s.i)
             have eSp:zx (List.replicate (1*4) 0) (off [(0,zbu.sz)]) (xl key 4 s.i (ks key 4 s.i))=xl key 4 s.i (ks key 4 s.i):=by
               show List.take 0 _++xl key 4 s.i (ks key 4 s.i)++List.drop (0+_) (List.replicate 4 0)=_
               rw [hNl];simp
             refine za ?_
             rw [eSp]
             refine za ?_
             refine zr ⟨Nat.le_add_right _ _,by show 4*s.i+s.t.t*4=(s.i+s.t.t)*4;omega,by decide,by show (s.i+1)*4≤_;omega⟩ ?_
             refine za ?_
             refine yi fun x=>?_
             refine za ?_
             refine ⟨⟨s.i+1,by omega,h4,x⟩,[3],by show 44-(s.i+1)<44-s.i;omega,?_⟩
             repeat ((conv=>whnf);refine zb ?_)
             conv=>whnf
             refine zv (zqx (by show s.i*4+1*4+x.t*4=4*(s.i+1)+x.t*4;omega) ?hl) ?_
             case hl=>
               show List.take (s.i*4) (ks key 4 s.i++s.t.l)++List.take (1*4) (xl key 4 s.i (ks key 4 s.i))++x.l=ks key 4 (s.i+1)++x.l
               rw [List.take_left' (by rw [hl];omega),zdr,List.take_of_length_le (by omega)]
             repeat ((conv=>whnf);refine zb ?_)
             conv=>whnf
             exact zo (congrArg SV.u8 (by show (rc ((s.i-1)/ 4))=rc ((s.i+1-1)/ 4);rw [Nat.add_sub_cancel,zhs (by omega) h6]))
         ·have e4:s.i=44:=by omega
          obtain ⟨si,sh1,sh2,st⟩:=s
          replace e4:si=44:=e4
          subst e4
          have h:=h st
          refine za ?_
          exact zf [0] h
    ·have hkn:key.length=4*8:=hk
     have hq:(key.length:Int).tdiv 4=8:=by rw [hk];rfl
     have hf:ya ((key.length:Int).tdiv 4):=by rw [hq];unfold ya;omega
     have hf2:(4:Int)≠0∧ya ((key.length:Int).tdiv 4):=⟨by decide,hf⟩
     have h:=x0 h
     rw [hk] at h
     replace h: ∀x:Tl UInt8 4,K (.sl 0 0 0 [] 60 (60+x.t)) [.mk 148 [.arr8 (4*60+x.t*4) (ks key 8 60++x.l)]]:=h
     refine za ?_
     rw [hq]
     refine za ?_
     refine zt (Option (Wx 8)) (fun q=>match q with
       |none=>⟨[(0,.str key),(3,.int 8),(4,.nilsl),(5,.int 0)],[]⟩
       |some s=>⟨[(0,.str key),(3,.int 8),(4,.sl 0 0 0 [] s.i (s.i+s.t.t)),(5,.int s.i)],[.mk 148 [.arr8 (4*s.i+s.t.t*4) (ks key 8 s.i++s.t.l)]]⟩)
       (fun q=>match q with|none=>8+1|some s=>8-s.i) none [] ?_ ?_
     ·exact zn
     ·intro q
      cases q with
      |none=>
       refine za ?_
       refine yi fun x=>?_
       refine za ?_
       refine ⟨some ⟨1,by decide,x⟩,[1],by show 8-1<8+1;omega,?_⟩
       repeat ((conv=>whnf);refine zb ?_)
       conv=>whnf
       refine zv (zqx rfl ?hl) ?_
       case hl=>
         show [key.getD 0 0,key.getD 1 0,key.getD 2 0,key.getD 3 0]++x.l=ks key 8 1++x.l
         rw [zdr key 8 0,z1s]
         unfold xl
         rw [if_pos (by decide),take4 (by omega)];rfl
       exact zn
      |some s=>
       have hi:=s.hi
       have hl:=zbm hkn s.i
       have ht:=s.t.h
       have hI:((s.i:Int)).toNat=s.i:=Int.toNat_natCast _
       by_cases h4:s.i<8
       ·refine za ?_
        refine zr ⟨Nat.le_add_right _ _,by show 4*s.i+s.t.t*4=(s.i+s.t.t)*4;omega,by decide,by show (s.i+1)*4≤_;omega⟩ ?_
        refine za ?_
        refine yi fun x=>?_
        refine za ?_
        refine ⟨some ⟨s.i+1,h4,x⟩,[2],by show 8-(s.i+1)<8-s.i;omega,?_⟩
        repeat ((conv=>whnf);refine zb ?_)
        conv=>whnf
        refine zv (zqx (by show s.i*4+1*4+x.t*4=4*(s.i+1)+x.t*4;omega) ?hl) ?_
        case hl=>
          show List.take (s.i*4) (ks key 8 s.i++s.t.l)++ [key.getD (4*s.i) 0,key.getD (4*s.i+1) 0,key.getD (4*s.i+2) 0,key.getD (4*s.i+3) 0]++x.l=ks key 8 (s.i+1)++x.l
          rw [List.take_left' (by rw [hl];omega)]
          rw [zdr]
          unfold xl
          rw [if_pos h4,take4 (by omega)]
        exact zn
       ·have e4:s.i=8:=by omega
        obtain ⟨si,shi,st⟩:=s
        replace e4:si=8:=e4
        subst e4
        clear hi hI h4 hl ht
        refine za ?_
        refine zt (Wz 8 60) (fun s=>⟨[(0,.str key),(3,.int 8),(4,.sl 0 0 0 [] s.i (s.i+s.t.t)),(6,.u8 (rc ((s.i-1)/ 8))),(7,.int s.i)],[.mk 148 [.arr8 (4*s.i+s.t.t*4) (ks key 8 s.i++s.t.l)]]⟩)
          (fun s=>60-s.i) ⟨8,by decide,by decide,st⟩ [0] ?_ ?_
        ·repeat ((conv=>whnf);refine zb ?_)
         conv=>whnf
         exact zo (congrArg SV.u8 (by show UInt8.ofNat 1=rc ((8-1)/ 8);rw [show (8-1)/ 8=0 by decide];unfold rc;rfl))
        ·intro s
         have hi1:=s.h1
         have hi2:=s.h2
         have hl:=zbm hkn s.i
         have ht:=s.t.h
         have hI:((s.i:Int)).toNat=s.i:=Int.toNat_natCast _
         have hm0:((s.i:Int)).tmod 8=((s.i%8:Nat):Int):=by rw [Int.tmod_eq_emod_of_nonneg (by omega)];omega
         by_cases h4:s.i<60
         ·obtain ⟨T,hT⟩: ∃T,T=((ks key 8 s.i).drop (4*(s.i-1))).take 4:=⟨_,rfl⟩
          have hTl:T.length=4:=by rw [hT,List.length_take,List.length_drop,zbm hkn];omega
          have tT:List.take zbu.sz (List.drop (off (yb [] ((s.i:Int)-1).toNat zbu.sz)) (ks key 8 s.i++s.t.l))=T:=by
            rw [hT]
            show List.take 4 (List.drop (((s.i:Int)-1).toNat*4) _)=_
            rw [show ((s.i:Int)-1).toNat*4=4*(s.i-1) by omega,List.drop_append_of_le_length (by omega),List.take_append_of_le_length (by rw [List.length_drop];omega)]
          have hnx:(List.range 4).map (fun k=>(ks key 8 s.i).getD (4*(s.i-8)+k) 0^^^(x4 8 s.i T).getD k 0)=xl key 8 s.i (ks key 8 s.i):=by
            unfold xl;rw [if_neg (by omega),←hT]
          by_cases h6:s.i%8=0
          ·refine za ?_
           rw [ycc,tT]
           refine zt (Ix (4)) (fun r=>⟨[(0,.str key),(3,.int 8),(4,.sl 0 0 0 [] s.i (s.i+s.t.t)),(6,.u8 (tw (rc ((s.i-1)/ 8)))),(7,.int s.i),(8,.ptr 1 0 0 []),(9,.int r.i)],[.mk 148 [.arr8 (4*s.i+s.t.t*4) (ks key 8 s.i++s.t.l)],.mk 148 [.arr8 4 (ovr (x4 8 s.i T) 0 (fun k=>(ks key 8 s.i).getD (4*(s.i-8)+k) 0^^^(x4 8 s.i T).getD k 0) r.i)]]⟩) (fun r=>(4)-r.i) ⟨0,Nat.zero_le _⟩ [0,1] ?_ ?_
           ·repeat ((conv=>whnf);refine zb ?_)
            conv=>whnf
            exact zo (by show _=SV.agg [SV.arr8 4 (ovr _ 0 _ 0)];rw [zaj];unfold x4;rw [if_pos h6];rfl)
           ·intro r
            have hri:=r.hi
            have hJ:((r.i:Int)).toNat=r.i:=Int.toNat_natCast _
            have hTW:=zby (n:=8) (i:=s.i) hTl
            have hlo:=yg (l:=x4 8 s.i T) (a:=0) (i:=r.i) (by omega) (fun k=>(ks key 8 s.i).getD (4*(s.i-8)+k) 0^^^(x4 8 s.i T).getD k 0)
            have hWl:(ks key 8 s.i++s.t.l).length=4*s.i+s.t.t*4:=by rw [List.length_append,hl,ht]
            by_cases h7:r.i<4
            ·refine za ?_
             refine ⟨⟨r.i+1,h7⟩,[0,1],by show (4)-(r.i+1)<(4)-r.i;omega,?_⟩
             repeat ((conv=>whnf);refine zb ?_)
             conv=>whnf
             refine zv (congrArg (fun x=>SV.agg [SV.arr8 4 x]) (z9 (by omega) ?hv ?hkk)) ?_
             case hkk=>show r.i=0+r.i;omega
             case hv=>
               show List.getD (ovr _ _ _ _) r.i 0^^^List.getD (ks key 8 s.i++s.t.l) (((s.i:Int)-8).toNat*4+r.i) 0=_
               rw [yw (by omega) _ (by omega),show ((s.i:Int)-8).toNat*4+r.i=4*(s.i-8)+r.i by omega,List.getD_eq_getElem?_getD (l:=_++_),List.getElem?_append_left (by omega),←List.getD_eq_getElem?_getD,UInt8.xor_comm]
             exact zn
            ·have e7:r.i=4:=by omega
             rw [e7,y4 hTW,hnx]
             have hNl:=zcv (i:=s.i) hkn (ks key 8 s.i)
             have eSp:zx (List.replicate (1*4) 0) (off [(0,zbu.sz)]) (xl key 8 s.i (ks key 8 s.i))=xl key 8 s.i (ks key 8 s.i):=by
               show List.take 0 _++xl key 8 s.i (ks key 8 s.i)++List.drop (0+_) (List.replicate 4 0)=_
               rw [hNl];simp
             refine za ?_
             rw [eSp]
             refine za ?_
             refine zr ⟨Nat.le_add_right _ _,by show 4*s.i+s.t.t*4=(s.i+s.t.t)*4;omega,by decide,by show (s.i+1)*4≤_;omega⟩ ?_
             refine za ?_
             refine yi fun x=>?_
             refine za ?_
             refine ⟨⟨s.i+1,by omega,h4,x⟩,[3],by show 60-(s.i+1)<60-s.i;omega,?_⟩
             repeat ((conv=>whnf);refine zb ?_)
             conv=>whnf
             refine zv (zqx (by show s.i*4+1*4+x.t*4=4*(s.i+1)+x.t*4;omega) ?hl) ?_
             case hl=>
               show List.take (s.i*4) (ks key 8 s.i++s.t.l)++List.take (1*4) (xl key 8 s.i (ks key 8 s.i))++x.l=ks key 8 (s.i+1)++x.l
               rw [List.take_left' (by rw [hl];omega),zdr,List.take_of_length_le (by omega)]
             repeat ((conv=>whnf);refine zb ?_)
             conv=>whnf
             exact zo (congrArg SV.u8 (by show (tw (rc ((s.i-1)/ 8)))=rc ((s.i+1-1)/ 8);rw [Nat.add_sub_cancel,zna (by omega) (by omega) h6]))
          ·by_cases h9:s.i%8=4
           ·refine za ?_
            rw [ycc,tT]
            refine zt (Ix (4)) (fun r=>⟨[(0,.str key),(3,.int 8),(4,.sl 0 0 0 [] s.i (s.i+s.t.t)),(6,.u8 (rc ((s.i-1)/ 8))),(7,.int s.i),(8,.ptr 1 0 0 []),(9,.int r.i)],[.mk 148 [.arr8 (4*s.i+s.t.t*4) (ks key 8 s.i++s.t.l)],.mk 148 [.arr8 4 (ovr (x4 8 s.i T) 0 (fun k=>(ks key 8 s.i).getD (4*(s.i-8)+k) 0^^^(x4 8 s.i T).getD k 0) r.i)]]⟩) (fun r=>(4)-r.i) ⟨0,Nat.zero_le _⟩ [0,1] ?_ ?_
            ·repeat ((conv=>whnf);refine zb ?_)
             conv=>whnf
             exact zo (by show _=SV.agg [SV.arr8 4 (ovr _ 0 _ 0)];rw [zaj];unfold x4;rw [if_neg h6,if_pos ⟨rfl,h9⟩];rfl)
            ·intro r
             have hri:=r.hi
             have hJ:((r.i:Int)).toNat=r.i:=Int.toNat_natCast _
             have hTW:=zby (n:=8) (i:=s.i) hTl
             have hlo:=yg (l:=x4 8 s.i T) (a:=0) (i:=r.i) (by omega) (fun k=>(ks key 8 s.i).getD (4*(s.i-8)+k) 0^^^(x4 8 s.i T).getD k 0)
             have hWl:(ks key 8 s.i++s.t.l).length=4*s.i+s.t.t*4:=by rw [List.length_append,hl,ht]
             by_cases h7:r.i<4
             ·refine za ?_
              refine ⟨⟨r.i+1,h7⟩,[0,1],by show (4)-(r.i+1)<(4)-r.i;omega,?_⟩
              repeat ((conv=>whnf);refine zb ?_)
              conv=>whnf
              refine zv (congrArg (fun x=>SV.agg [SV.arr8 4 x]) (z9 (by omega) ?hv ?hkk)) ?_
              case hkk=>show r.i=0+r.i;omega
              case hv=>
                show List.getD (ovr _ _ _ _) r.i 0^^^List.getD (ks key 8 s.i++s.t.l) (((s.i:Int)-8).toNat*4+r.i) 0=_
                rw [yw (by omega) _ (by omega),show ((s.i:Int)-8).toNat*4+r.i=4*(s.i-8)+r.i by omega,List.getD_eq_getElem?_getD (l:=_++_),List.getElem?_append_left (by omega),←List.getD_eq_getElem?_getD,UInt8.xor_comm]
              exact zn
             ·have e7:r.i=4:=by omega
              rw [e7,y4 hTW,hnx]
              have hNl:=zcv (i:=s.i) hkn (ks key 8 s.i)
              have eSp:zx (List.replicate (1*4) 0) (off [(0,zbu.sz)]) (xl key 8 s.i (ks key 8 s.i))=xl key 8 s.i (ks key 8 s.i):=by
                show List.take 0 _++xl key 8 s.i (ks key 8 s.i)++List.drop (0+_) (List.replicate 4 0)=_
                rw [hNl];simp
              refine za ?_
              rw [eSp]
              refine za ?_
              refine zr ⟨Nat.le_add_right _ _,by show 4*s.i+s.t.t*4=(s.i+s.t.t)*4;omega,by decide,by show (s.i+1)*4≤_;omega⟩ ?_
              refine za ?_
              refine yi fun x=>?_
              refine za ?_
              refine ⟨⟨s.i+1,by omega,h4,x⟩,[3],by show 60-(s.i+1)<60-s.i;omega,?_⟩
              repeat ((conv=>whnf);refine zb ?_)
              conv=>whnf
              refine zv (zqx (by show s.i*4+1*4+x.t*4=4*(s.i+1)+x.t*4;omega) ?hl) ?_
              case hl=>
                show List.take (s.i*4) (ks key 8 s.i++s.t.l)++List.take (1*4) (xl key 8 s.i (ks key 8 s.i))++x.l=ks key 8 (s.i+1)++x.l
                rw [List.take_left' (by rw [hl];omega),zdr,List.take_of_length_le (by omega)]
              repeat ((conv=>whnf);refine zb ?_)
              conv=>whnf
              exact zo (congrArg SV.u8 (by show (rc ((s.i-1)/ 8))=rc ((s.i+1-1)/ 8);rw [Nat.add_sub_cancel,zhs (by omega) h6]))
           ·refine za ?_
            rw [tT]
            refine zt (Ix (4)) (fun r=>⟨[(0,.str key),(3,.int 8),(4,.sl 0 0 0 [] s.i (s.i+s.t.t)),(6,.u8 (rc ((s.i-1)/ 8))),(7,.int s.i),(8,.ptr 1 0 0 []),(9,.int r.i)],[.mk 148 [.arr8 (4*s.i+s.t.t*4) (ks key 8 s.i++s.t.l)],.mk 148 [.arr8 4 (ovr (x4 8 s.i T) 0 (fun k=>(ks key 8 s.i).getD (4*(s.i-8)+k) 0^^^(x4 8 s.i T).getD k 0) r.i)]]⟩) (fun r=>(4)-r.i) ⟨0,Nat.zero_le _⟩ [0,1] ?_ ?_
            ·repeat ((conv=>whnf);refine zb ?_)
             conv=>whnf
             exact zo (by show SV.agg [SV.arr8 4 T]=SV.agg [SV.arr8 4 (ovr _ 0 _ 0)];rw [zaj];unfold x4;rw [if_neg h6,if_neg (fun h=>h9 h.2)])
            ·intro r
             have hri:=r.hi
             have hJ:((r.i:Int)).toNat=r.i:=Int.toNat_natCast _
             have hTW:=zby (n:=8) (i:=s.i) hTl
             have hlo:=yg (l:=x4 8 s.i T) (a:=0) (i:=r.i) (by omega) (fun k=>(ks key 8 s.i).getD (4*(s.i-8)+k) 0^^^(x4 8 s.i T).getD k 0)
             have hWl:(ks key 8 s.i++s.t.l).length=4*s.i+s.t.t*4:=by rw [List.length_append,hl,ht]
             by_cases h7:r.i<4
             ·refine za ?_
              refine ⟨⟨r.i+1,h7⟩,[0,1],by show (4)-(r.i+1)<(4)-r.i;omega,?_⟩
              repeat ((conv=>whnf);refine zb ?_)
              conv=>whnf
              refine zv (congrArg (fun x=>SV.agg [SV.arr8 4 x]) (z9 (by omega) ?hv ?hkk)) ?_
              case hkk=>show r.i=0+r.i;omega
              case hv=>
                show List.getD (ovr _ _ _ _) r.i 0^^^List.getD (ks key 8 s.i++s.t.l) (((s.i:Int)-8).toNat*4+r.i) 0=_
                rw [yw (by omega) _ (by omega),show ((s.i:Int)-8).toNat*4+r.i=4*(s.i-8)+r.i by omega,List.getD_eq_getElem?_getD (l:=_++_),List.getElem?_append_left (by omega),←List.getD_eq_getElem?_getD,UInt8.xor_comm]
              exact zn
             ·have e7:r.i=4:=by omega
              rw [e7,y4 hTW,hnx]
              have hNl:=zcv (i:=s.i) hkn (ks key 8 s.i)
              have eSp:zx (List.replicate (1*4) 0) (off [(0,zbu.sz)]) (xl key 8 s.i (ks key 8 s.i))=xl key 8 s.i (ks key 8 s.i):=by
                show List.take 0 _++xl key 8 s.i (ks key 8 s.i)++List.drop (0+_) (List.replicate 4 0)=_
                rw [hNl];simp
              refine za ?_
              rw [eSp]
              refine za ?_
              refine zr ⟨Nat.le_add_right _ _,by show 4*s.i+s.t.t*4=(s.i+s.t.t)*4;omega,by decide,by show (s.i+1)*4≤_;omega⟩ ?_
              refine za ?_
              refine yi fun x=>?_
              refine za ?_
              refine ⟨⟨s.i+1,by omega,h4,x⟩,[3],by show 60-(s.i+1)<60-s.i;omega,?_⟩
              repeat ((conv=>whnf);refine zb ?_)
              conv=>whnf
              refine zv (zqx (by show s.i*4+1*4+x.t*4=4*(s.i+1)+x.t*4;omega) ?hl) ?_
              case hl=>
                show List.take (s.i*4) (ks key 8 s.i++s.t.l)++List.take (1*4) (xl key 8 s.i (ks key 8 s.i))++x.l=ks key 8 (s.i+1)++x.l
                rw [List.take_left' (by rw [hl];omega),zdr,List.take_of_length_le (by omega)]
              repeat ((conv=>whnf);refine zb ?_)
              conv=>whnf
              exact zo (congrArg SV.u8 (by show (rc ((s.i-1)/ 8))=rc ((s.i+1-1)/ 8);rw [Nat.add_sub_cancel,zhs (by omega) h6]))
         ·have e4:s.i=60:=by omega
          obtain ⟨si,sh1,sh2,st⟩:=s
          replace e4:si=60:=e4
          subst e4
          have h:=h st
          refine za ?_
          exact zf [0] h
   ·exact h.elim
end Go.Sym.Z

namespace Go.Sym.Z
open Go Go.Proofs.Tryz Go.Sym.Lp Go.Sym.Aes
set_option maxRecDepth 100000
attribute [local irreducible] box tw xh zgn
def yim:List (Nat×List PStep):= [(5,[⟨0,[]⟩,⟨1,[0]⟩,⟨2,[0,1]⟩,⟨3,[0]⟩,⟨4,[0,1,2,3]⟩,⟨5,[0,1,2,3,4]⟩,⟨6,[0,1,2,3,4]⟩,⟨7,[0,1,2,3,4,5,6]⟩,⟨8,[0,1,2,3,4,5,6]⟩,⟨9,[0,1,2,3,7,8]⟩,⟨10,[0,1,2,3]⟩,⟨11,[0,1,2,3]⟩,⟨12,[0]⟩,⟨13,[]⟩,⟨14,[]⟩]),(19,[⟨0,[]⟩,⟨1,[]⟩,⟨2,[]⟩,⟨3,[0,1,2]⟩,⟨4,[0,1,2]⟩,⟨5,[0,1,2]⟩,⟨6,[0,1,2]⟩,⟨7,[]⟩,⟨8,[0,1,2,3,4,5,6,7]⟩,⟨9,[0,1,2,3,4,5,6,7]⟩,⟨10,[0,1,2,3,4,5,6,7]⟩,⟨11,[0,1,2,3,4,5,6,7]⟩,⟨12,[]⟩,⟨13,[0,1,2,3,4,5,6,7,8,9,10,11,12]⟩,⟨14,[0,1,2,3,4,5,6,7,8,9,10,11,12]⟩,⟨15,[0,1,2,3,4,5,6,7,8,9,10,11,12]⟩,⟨16,[0,1,2,3,4,5,6,7,8,9,10,11,12]⟩,⟨17,[]⟩,⟨18,[]⟩]),(24,[⟨0,[]⟩,⟨1,[0]⟩,⟨2,[]⟩,⟨3,[0,1,2]⟩,⟨4,[0,1,2,3]⟩,⟨5,[0,1,2]⟩,⟨6,[0,1,2]⟩,⟨7,[0,1,2]⟩,⟨8,[0,1,2,3,4,5,6,7]⟩,⟨9,[0,1,2]⟩,⟨10,[0,1,2,3,4,5,6,7,8,9]⟩,⟨11,[0,1,2,3,4,5,6,7,8,9,10]⟩,⟨12,[0,1,2,3,4,5,6,7,8,9]⟩,⟨13,[0,1,2,3,4,5,6,7,8,9]⟩,⟨14,[0,1,2,3,4,5,6,7,8,9]⟩,⟨15,[0,1,2,3,4,5,6,7,8,9,10,11,12,13,14]⟩,⟨16,[0,1,2,3,4,5,6,7,8,9,10,11,12,13,14,15]⟩,⟨17,[0,1,2,3,4,5,6,7,8,9,10,11,12,13,14]⟩,⟨18,[0,1,2,3,4,5,6,7,8,9,10,11,12,13,14]⟩,⟨19,[0,1,2,3,4,5,6,7,8,9,10,11,12,13,14]⟩,⟨20,[0,1,2,3,4,5,6,7,8,9,10,11,12,13,14]⟩,⟨21,[0,1,2,3,4,5,6,7,8,9]⟩,⟨22,[0,1,2,3,4,5,6,7,8,9]⟩,⟨23,[0,1,2]⟩,⟨24,[]⟩,⟨25,[]⟩]),(25,[⟨0,[]⟩,⟨1,[]⟩,⟨2,[0,1]⟩,⟨3,[0,1]⟩,⟨4,[0,1]⟩,⟨5,[0,1]⟩,⟨6,[0,1,2,3,4,5]⟩,⟨7,[0,1]⟩,⟨8,[0,1,2,3,4,5,6,7]⟩,⟨9,[0,1,2,3,4,5,6,7]⟩,⟨10,[0,1,2,3,4,5,6,7]⟩,⟨11,[0,1,2,3,4,5,6,7]⟩,⟨12,[0,1,2,3,4,5,6,7,8,9,10,11]⟩,⟨13,[0,1,2,3,4,5,6,7]⟩,⟨14,[0,1,2,3,4,5,6,7]⟩,⟨15,[0,1]⟩,⟨16,[]⟩,⟨17,[]⟩]),(29,[⟨0,[]⟩,⟨1,[0]⟩,⟨2,[0]⟩,⟨3,[0]⟩,⟨4,[0,1,2,3]⟩,⟨5,[0,1,2,3,4]⟩,⟨6,[0,1,2,3,4]⟩,⟨7,[0,1,2,3,4,5,6]⟩,⟨8,[0,1,2,3,4,5,6]⟩,⟨9,[0,1,2,3,4]⟩,⟨10,[0,1,2,3,4,5,6,7,8,9]⟩,⟨11,[0,1,2,3,4,5,6,7,8,9]⟩,⟨12,[0,1,2,3,10,11]⟩,⟨13,[0,1,2,3]⟩,⟨14,[0,1,2,3]⟩,⟨15,[0]⟩,⟨16,[]⟩,⟨17,[]⟩])]
def zqf:Spec:=fun args hp K=>match args,hp with
  | [.sl 0 0 0 [] n c,.str s],[.mk t [.arr8 N W]]=> ∃R,(n=4*R∧1≤R∧R≤100∧s.length=16∧16*R≤W.length)∧K (.str (enc W R s)) [.mk t [.arr8 N W]]
  |_,_=>False
set_option maxHeartbeats 8000000 in
theorem zrl:zp prog 107 zqf:=by
  refine zm zdk (zd zvu zi) rfl func107 rfl call107 (D:=yim) ?_ ?_
  ·intro args hp K h
   unfold zqf at h
   split at h
   ·exact Nat.le_of_ble_eq_true rfl
   ·exact h.elim
  ·intro args hp K h
   unfold zqf at h
   split at h
   ·rename_i n c s t N W
    obtain ⟨R,⟨rfl,hR,hR2,hs,hW⟩,h⟩:=h
    have hB:=zmz
    refine za ?_
    refine zt (Ix (16)) (fun q=>⟨[(0,.sl 0 0 0 [] (4*R) c),(1,.str s),(5,.ptr 1 0 0 []),(6,.int q.i)],[.mk t [.arr8 N W],.mk 168 [.arr8 16 (ovr (List.replicate 16 0) 0 (fun j=>s.getD j 0^^^W.getD (16*0+j) 0) q.i)]]⟩) (fun q=>(16)-q.i) ⟨0,Nat.zero_le _⟩ [0,1] ?_ ?_
    ·exact zn
    ·intro q
     have hi:=q.hi
     have hI:((q.i:Int)).toNat=q.i:=Int.toNat_natCast _
     have hd4:(q.i:Int).tdiv 4=((q.i/ 4:Nat):Int):=by rw [Int.tdiv_eq_ediv_of_nonneg (by omega)];omega
     have hm4:(q.i:Int).tmod 4=((q.i%4:Nat):Int):=by rw [Int.tmod_eq_emod_of_nonneg (by omega)];omega
     have hpd:(4:Int)≠0∧ya ((q.i:Int).tdiv 4):=⟨by decide,by unfold ya;omega⟩
     have hlo:=yg (l:=List.replicate 16 (0:UInt8)) (a:=0) (i:=q.i) (by rw [List.length_replicate];omega) (fun j=>s.getD j 0^^^W.getD (16*0+j) 0)
     rw [List.length_replicate] at hlo
     by_cases h4:q.i<16
     ·refine za ?_
      refine ⟨⟨q.i+1,h4⟩,[0,1],by show (16)-(q.i+1)<(16)-q.i;omega,?_⟩
      repeat ((conv=>whnf);refine zb ?_)
      conv=>whnf
      refine zv (congrArg (fun x=>SV.agg [SV.arr8 16 x]) (z9 (by rw [List.length_replicate];omega) ?hv ?hkk)) ?_
      case hkk=>show q.i=0+q.i;omega
      case hv=>
        show s.getD q.i 0^^^W.getD (((q.i:Int).tdiv 4).toNat*4+((q.i:Int).tmod 4).toNat) 0=_
        rw [show ((q.i:Int).tdiv 4).toNat*4+((q.i:Int).tmod 4).toNat=16*0+q.i by omega]
      exact zn
     ·have e4:q.i=16:=by omega
      rw [e4,y4 (List.length_replicate),show (List.range 16).map (fun j=>s.getD j 0^^^W.getD (16*0+j) 0)=zb1 W R s 0 from rfl]
      clear hlo hI hi h4 e4 hd4 hm4 hpd q
      have hR4:((4*R:Nat):Int).tdiv 4=(R:Int):=by rw [Int.tdiv_eq_ediv_of_nonneg (by omega)];omega
      have hpd:(4:Int)≠0∧ya (((4*R:Nat):Int).tdiv 4):=⟨by decide,by unfold ya;omega⟩
      refine za ?_
      rw [hR4]
      refine zt (Ix ((R-1))) (fun q=>⟨[(0,.sl 0 0 0 [] (4*R) c),(1,.str s),(5,.ptr 1 0 0 []),(7,.int ((R:Int)-1)),(8,.int ((q.i:Int)+1))],[.mk t [.arr8 N W],.mk 168 [.arr8 16 (zb1 W R s q.i)]]⟩) (fun q=>((R-1))-q.i) ⟨0,Nat.zero_le _⟩ [0,1] ?_ ?_
      ·exact zn
      ·intro q
       have hi:=q.hi
       have hX:=zhp W R s q.i
       by_cases h4:q.i<R-1
       ·refine za ?_
        generalize hXe:zb1 W R s q.i=X at*
        refine zt (Ix (16)) (fun r=>⟨[(0,.sl 0 0 0 [] (4*R) c),(1,.str s),(5,.ptr 1 0 0 []),(7,.int ((R:Int)-1)),(8,.int ((q.i:Int)+1)),(9,.ptr 2 0 0 []),(10,.int r.i)],[.mk t [.arr8 N W],.mk 168 [.arr8 16 X],.mk 168 [.arr8 16 (ovr (List.replicate 16 0) 0 (fun i=>box.getD (X.getD ((i+4*(i%4))%16) 0).toNat 0) r.i)]]⟩) (fun r=>(16)-r.i) ⟨0,Nat.zero_le _⟩ [0,1,2] ?_ ?_
        ·exact zn
        ·intro r
         have hri:=r.hi
         have hJ:((r.i:Int)).toNat=r.i:=Int.toNat_natCast _
         have hm4:(r.i:Int).tmod 4=((r.i%4:Nat):Int):=by rw [Int.tmod_eq_emod_of_nonneg (by omega)];omega
         have hm16:((r.i:Int)+4*(r.i:Int).tmod 4).tmod 16=(((r.i+4*(r.i%4))%16:Nat):Int):=by rw [hm4,Int.tmod_eq_emod_of_nonneg (by omega)];omega
         have hlo:=yg (l:=List.replicate 16 (0:UInt8)) (a:=0) (i:=r.i) (by rw [List.length_replicate];omega) (fun i=>box.getD (X.getD ((i+4*(i%4))%16) 0).toNat 0)
         rw [List.length_replicate] at hlo
         by_cases h5:r.i<16
         ·refine za ?_
          rw [ycc]
          conv=>whnf
          refine ⟨⟨r.i+1,h5⟩,[0,1,2],by show (16)-(r.i+1)<(16)-r.i;omega,?_⟩
          repeat ((conv=>whnf);refine zb ?_)
          conv=>whnf
          refine zv (congrArg (fun x=>SV.agg [SV.arr8 16 x]) (z9 (by rw [List.length_replicate];omega) ?hv ?hkk)) ?_
          case hkk=>show r.i=0+r.i;omega
          case hv=>
            show box.getD (UInt8.toNat (X.getD (((r.i:Int)+4*(r.i:Int).tmod 4).tmod 16).toNat 0)) 0=_
            rw [hm16,Int.toNat_natCast]
          exact zn
         ·have e5:r.i=16:=by omega
          rw [e5,y4 (List.length_replicate),show (List.range 16).map (fun i=>box.getD (X.getD ((i+4*(i%4))%16) 0).toNat 0)=xh X by unfold xh;rfl]
          clear hm4 hm16 hlo hJ hri h5 e5 r
          have hS:=zjc X
          by_cases h6:q.i+1<R-1
          ·refine za ?_
           refine zt (Ix (4)) (fun m=>⟨[(0,.sl 0 0 0 [] (4*R) c),(1,.str s),(5,.ptr 1 0 0 []),(7,.int ((R:Int)-1)),(8,.int ((q.i:Int)+1)),(9,.ptr 2 0 0 []),(11,.int (4*(m.i:Int)))],[.mk t [.arr8 N W],.mk 168 [.arr8 16 X],.mk 168 [.arr8 16 (ovr (xh X) 0 (ziq (xh X)) (4*m.i))]]⟩) (fun m=>(4)-m.i) ⟨0,Nat.zero_le _⟩ [0,1,2] ?_ ?_
           ·exact zn
           ·intro m
            have hmi:=m.hi
            have hlm:=yg (l:=xh X) (a:=0) (i:=4*m.i) (by omega) (ziq (xh X))
            by_cases h8:m.i<4
            ·have hg: ∀j,4*m.i≤j→(ovr (xh X) 0 (ziq (xh X)) (4*m.i)).getD j 0=(xh X).getD j 0:=fun j hj=>yw (by omega) _ (by omega) _
             refine za ?_
             obtain ⟨al,hal⟩: ∃al,al=(xh X).getD (4*m.i) 0^^^(xh X).getD (4*m.i+1) 0^^^(xh X).getD (4*m.i+2) 0^^^(xh X).getD (4*m.i+3) 0:=⟨_,rfl⟩
             refine zt (Ix (3)) (fun u=>⟨[(0,.sl 0 0 0 [] (4*R) c),(1,.str s),(5,.ptr 1 0 0 []),(7,.int ((R:Int)-1)),(8,.int ((q.i:Int)+1)),(9,.ptr 2 0 0 []),(11,.int (4*(m.i:Int))),(12,.u8 al),(13,.u8 ((xh X).getD (4*m.i) 0)),(14,.int u.i)],[.mk t [.arr8 N W],.mk 168 [.arr8 16 X],.mk 168 [.arr8 16 (ovr (xh X) 0 (ziq (xh X)) (4*m.i+u.i))]]⟩) (fun u=>(3)-u.i) ⟨0,Nat.zero_le _⟩ [0,1,2] ?_ ?_
             ·repeat ((conv=>whnf);refine zb ?_)
              conv=>whnf
              refine zv (congrArg SV.u8 (by show (ovr _ _ _ _).getD (4*m.i) 0^^^(ovr _ _ _ _).getD (4*m.i+1) 0^^^(ovr _ _ _ _).getD (4*m.i+2) 0^^^(ovr _ _ _ _).getD (4*m.i+3) 0=al;rw [hg _ (by omega),hg _ (by omega),hg _ (by omega),hg _ (by omega),hal])) ?_
              repeat ((conv=>whnf);refine zb ?_)
              conv=>whnf
              exact zo (congrArg SV.u8 (by show (ovr _ _ _ _).getD (4*m.i) 0=(xh X).getD (4*m.i) 0;rw [hg _ (by omega)]))
             ·intro u
              have hui:=u.hi
              have hlu:=yg (l:=xh X) (a:=0) (i:=4*m.i+u.i) (by omega) (ziq (xh X))
              have hgu: ∀j,4*m.i+u.i≤j→(ovr (xh X) 0 (ziq (xh X)) (4*m.i+u.i)).getD j 0=(xh X).getD j 0:=fun j hj=>yw (by omega) _ (by omega) _
              by_cases h9:u.i<3
              ·have hat:=zho (xh X) m.i u.i (by omega)
               rw [←hal,Nat.mod_eq_of_lt (by omega)] at hat
               refine za ?_
               refine ⟨⟨u.i+1,h9⟩,[0,1,2],by show (3)-(u.i+1)<(3)-u.i;omega,?_⟩
               repeat ((conv=>whnf);refine zb ?_)
               conv=>whnf
               refine zv (congrArg (fun x=>SV.agg [SV.arr8 16 x]) (z9 (by omega) ?hv ?hkk)) ?_
               case hkk=>show 4*m.i+u.i=0+(4*m.i+u.i);omega
               case hv=>
                 show (ovr _ _ _ _).getD (4*m.i+u.i) 0^^^al^^^tw ((ovr _ _ _ _).getD (4*m.i+u.i) 0^^^(ovr _ _ _ _).getD (4*m.i+u.i+1) 0)=_
                 rw [hgu _ (by omega),hgu _ (by omega),hat,UInt8.xor_assoc];rfl
               exact zn
              ·have e9:u.i=3:=by omega
               have hat:=zho (xh X) m.i 3 (by omega)
               rw [←hal,show (3+1)%4=0 by decide,Nat.add_zero] at hat
               rw [e9] at hlu hgu
               rw [e9]
               refine za ?_
               refine ⟨⟨m.i+1,h8⟩,[0,1,2],by show (4)-(m.i+1)<(4)-m.i;omega,?_⟩
               repeat ((conv=>whnf);refine zb ?_)
               conv=>whnf
               refine zv (congrArg (fun x=>SV.agg [SV.arr8 16 x]) (z9 (by omega) ?hv ?hkk)) ?_
               case hkk=>show 4*m.i+3=0+(4*m.i+3);omega
               case hv=>
                 show (ovr _ _ _ _).getD (4*m.i+3) 0^^^al^^^tw ((ovr _ _ _ _).getD (4*m.i+3) 0^^^(xh X).getD (4*m.i) 0)=_
                 rw [hgu _ (by omega),hat,UInt8.xor_assoc];rfl
               exact zn
            ·have e8:m.i=4:=by omega
             rw [e8,show ovr (xh X) 0 (ziq (xh X)) (4*4)=zgn (xh X) by unfold zgn;exact y4 hS _]
             clear hlm hmi h8 e8 m
             refine za ?_
             refine zt (Ix (16)) (fun k=>⟨[(0,.sl 0 0 0 [] (4*R) c),(1,.str s),(5,.ptr 1 0 0 []),(7,.int ((R:Int)-1)),(8,.int ((q.i:Int)+1)),(9,.ptr 2 0 0 []),(15,.int k.i)],[.mk t [.arr8 N W],.mk 168 [.arr8 16 (ovr X 0 (fun j=>(zgn (xh X)).getD j 0^^^W.getD (16*(q.i+1)+j) 0) k.i)],.mk 168 [.arr8 16 (zgn (xh X))]]⟩) (fun k=>(16)-k.i) ⟨0,Nat.zero_le _⟩ [0,1,2] ?_ ?_
             ·exact zn
             ·intro k
              have hki:=k.hi
              have hK:((k.i:Int)).toNat=k.i:=Int.toNat_natCast _
              have hd4:(k.i:Int).tdiv 4=((k.i/ 4:Nat):Int):=by rw [Int.tdiv_eq_ediv_of_nonneg (by omega)];omega
              have hm4:(k.i:Int).tmod 4=((k.i%4:Nat):Int):=by rw [Int.tmod_eq_emod_of_nonneg (by omega)];omega
              have hpd:(4:Int)≠0∧ya ((k.i:Int).tdiv 4):=⟨by decide,by unfold ya;omega⟩
              have hlo:=yg (l:=X) (a:=0) (i:=k.i) (by omega) (fun j=>(zgn (xh X)).getD j 0^^^W.getD (16*(q.i+1)+j) 0)
              have hls:(zgn (xh X)).length=16:=zvc _
              by_cases h7:k.i<16
              ·refine za ?_
               refine ⟨⟨k.i+1,h7⟩,[0,1,2],by show (16)-(k.i+1)<(16)-k.i;omega,?_⟩
               repeat ((conv=>whnf);refine zb ?_)
               conv=>whnf
               refine zv (congrArg (fun x=>SV.agg [SV.arr8 16 x]) (z9 (by omega) ?hv ?hkk)) ?_
               case hkk=>show k.i=0+k.i;omega
               case hv=>
                 show List.getD _ k.i 0^^^W.getD ((4*((q.i:Int)+1)+(k.i:Int).tdiv 4).toNat*4+((k.i:Int).tmod 4).toNat) 0=_
                 rw [show (4*((q.i:Int)+1)+(k.i:Int).tdiv 4).toNat*4+((k.i:Int).tmod 4).toNat=16*(q.i+1)+k.i by omega]
               exact zn
              ·have e7:k.i=16:=by omega
               have hnx:ovr X 0 (fun j=>(zgn (xh X)).getD j 0^^^W.getD (16*(q.i+1)+j) 0) 16=zb1 W R s (q.i+1):=by
                 rw [y4 hX]
                 simp only [zb1]
                 unfold rnd zqy
                 rw [hXe,if_pos h6]
               rw [e7,hnx]
               refine za ?_
               refine ⟨⟨q.i+1,h4⟩,[0,1],by show ((R-1))-(q.i+1)<((R-1))-q.i;omega,?_⟩
               exact zn
          ·refine za ?_
           refine zt (Ix (16)) (fun k=>⟨[(0,.sl 0 0 0 [] (4*R) c),(1,.str s),(5,.ptr 1 0 0 []),(7,.int ((R:Int)-1)),(8,.int ((q.i:Int)+1)),(9,.ptr 2 0 0 []),(15,.int k.i)],[.mk t [.arr8 N W],.mk 168 [.arr8 16 (ovr X 0 (fun j=>(xh X).getD j 0^^^W.getD (16*(q.i+1)+j) 0) k.i)],.mk 168 [.arr8 16 (xh X)]]⟩) (fun k=>(16)-k.i) ⟨0,Nat.zero_le _⟩ [0,1,2] ?_ ?_
           ·exact zn
           ·intro k
            have hki:=k.hi
            have hK:((k.i:Int)).toNat=k.i:=Int.toNat_natCast _
            have hd4:(k.i:Int).tdiv 4=((k.i/ 4:Nat):Int):=by rw [Int.tdiv_eq_ediv_of_nonneg (by omega)];omega
            have hm4:(k.i:Int).tmod 4=((k.i%4:Nat):Int):=by rw [Int.tmod_eq_emod_of_nonneg (by omega)];omega
            have hpd:(4:Int)≠0∧ya ((k.i:Int).tdiv 4):=⟨by decide,by unfold ya;omega⟩
            have hlo:=yg (l:=X) (a:=0) (i:=k.i) (by omega) (fun j=>(xh X).getD j 0^^^W.getD (16*(q.i+1)+j) 0)
            have hls:(xh X).length=16:=zjc X
            by_cases h7:k.i<16
            ·refine za ?_
             refine ⟨⟨k.i+1,h7⟩,[0,1,2],by show (16)-(k.i+1)<(16)-k.i;omega,?_⟩
             repeat ((conv=>whnf);refine zb ?_)
             conv=>whnf
             refine zv (congrArg (fun x=>SV.agg [SV.arr8 16 x]) (z9 (by omega) ?hv ?hkk)) ?_
             case hkk=>show k.i=0+k.i;omega
             case hv=>
               show List.getD _ k.i 0^^^W.getD ((4*((q.i:Int)+1)+(k.i:Int).tdiv 4).toNat*4+((k.i:Int).tmod 4).toNat) 0=_
               rw [show (4*((q.i:Int)+1)+(k.i:Int).tdiv 4).toNat*4+((k.i:Int).tmod 4).toNat=16*(q.i+1)+k.i by omega]
             exact zn
            ·have e7:k.i=16:=by omega
             have hnx:ovr X 0 (fun j=>(xh X).getD j 0^^^W.getD (16*(q.i+1)+j) 0) 16=zb1 W R s (q.i+1):=by
               rw [y4 hX]
               simp only [zb1]
               unfold rnd zqy
               rw [hXe,if_neg h6]
             rw [e7,hnx]
             refine za ?_
             refine ⟨⟨q.i+1,h4⟩,[0,1],by show ((R-1))-(q.i+1)<((R-1))-q.i;omega,?_⟩
             exact zn
       ·have e4:q.i=R-1:=by omega
        rw [e4]
        have hE:=zhp W R s (R-1)
        have hT:List.take 16 (List.drop (off []) (zb1 W R s (R-1)))=enc W R s:=by unfold enc;exact List.take_of_length_le (Nat.le_of_eq hE)
        refine za ?_
        rw [hT]
        conv=>whnf
        exact zf [0] h
   ·exact h.elim
end Go.Sym.Z
