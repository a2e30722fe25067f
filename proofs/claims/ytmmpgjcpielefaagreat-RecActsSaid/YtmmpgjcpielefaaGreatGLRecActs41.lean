/-
  Contracts of functions of the program, each said of symbolic values, and plain laws; no condition beyond each statement's own.
-/
import Derived.Test.YtmmpgjcpielefaaGreatGLRecActs40
import Derived.Test.YtmmpgjcpielefaaGreatGLRecActs37
set_option linter.unusedSimpArgs false
set_option linter.unusedVariables false
namespace Go.Sym.Z
open Go Go.Proofs.Tryz Go.Sym.Lp Go.Sym.Cha Go.Sym.Sha Go.Sym.Hk Go.Sym.Gcm Go.Sym.Aes
set_option maxRecDepth 100000
def yjx:List (Nat×List PStep):= []
def abH:List UInt8:= [22,3,3,0,2,97,98]
theorem yfb:([]:List UInt8)++List.take (Int.toNat 4) (hdF 22 ((([97,98]:List UInt8).length:Nat):Int)++ [97,98])++List.drop (Int.toNat 4) (hdF 22 ((([97,98]:List UInt8).length:Nat):Int)++ [97,98])=abH:=rfl
theorem yh8:inL 0 ((([120,121,122]:List UInt8).length:Nat):Int)=4:=by decide+kernel
theorem ykj:hA [9,3,3,0,0] true=10:=by decide+kernel
theorem zrw:decide (hA abH false= -1)=true:=by decide+kernel
theorem z9l:decide ((abH.length:Int)<5+hN abH)=false:=by decide+kernel
theorem yh3:hK abH=22:=by decide+kernel
theorem yhr:hT abH= [97,98]:=by decide+kernel
theorem ycp:hR abH= []:=by decide+kernel
attribute [local irreducible] abH za2 exF kyF ivF xi zau y0 inL ncF lnz iA hA hN hK yq zao hO hP hR hT iK yg
def zno:Spec:=fun args hp K=>match args,hp with
  | [],[]=>K (.bool true) []
  |_,_=>False
set_option maxHeartbeats 4000000 in
theorem z6a:zp prog 13 zno:=by
  refine zm y6 (zc z82 (zc z5e (zc zzx (zc z00 (zc z1l (zc zq1 (zc zvg (zc z9u (zc z0i zi))))))))) rfl func13 rfl call13 (D:=yjx) ?_ ?_
  ·intro args hp K h
   unfold zno at h
   split at h
   ·exact Nat.le_of_ble_eq_true rfl
   ·exact h.elim
  ·intro args hp K h
   unfold zno at h
   split at h
   ·have hpk:za3 4865 (kyF 4865 (yg [115] (Int.toNat 32))) (ivF 4865 (yg [115] (Int.toNat 32))) 0∧(0:Int)≤0∧(0:Int)≤16384∧([120,121,122]:List UInt8).length≤140737488351232:=⟨⟨.inl rfl,znk _ _,znd _ _,by decide,by decide⟩,by decide,by decide,by decide⟩
    have hpr:za3 4865 (kyF 4865 (yg [115] (Int.toNat 32))) (ivF 4865 (yg [115] (Int.toNat 32))) 0:=hpk.1
    have hsl:(yq 0 4865 (kyF 4865 (yg [115] (Int.toNat 32))) (ivF 4865 (yg [115] (Int.toNat 32))) 0 23 [120,121,122]).length=25:=by
      have:=zil (p:=0) (w:=4865) (key:=(kyF 4865 (yg [115] (Int.toNat 32)))) (iv:=(ivF 4865 (yg [115] (Int.toNat 32)))) (m:=0) (kind:=23) (s:= [120,121,122]) (by decide) (by decide)
      rw [yh8] at this
      omega
    have hp2:za3 4865 (kyF 4865 (yg [115] (Int.toNat 32))) (ivF 4865 (yg [115] (Int.toNat 32))) 0∧(hR abH++((yq 0 4865 (kyF 4865 (yg [115] (Int.toNat 32))) (ivF 4865 (yg [115] (Int.toNat 32))) 0 23 [120,121,122])++ [9,3,3,0,0])).length<9223372036854775808:=⟨hpr,by rw [ycp,List.nil_append,List.length_append,hsl];decide⟩
    obtain ⟨q1,q2,q3,q4,q5,q6,q7⟩:=z7g (p:=0) (w:=4865) (key:=(kyF 4865 (yg [115] (Int.toNat 32)))) (iv:=(ivF 4865 (yg [115] (Int.toNat 32)))) (m:=0) (kind:=23) (s:= [120,121,122]) [9,3,3,0,0] (by decide) (by decide)
    obtain ⟨q8,q9,q10,q11⟩:=yab (p:=0) (kind:=23) (s:= [120,121,122]) (by decide) (by decide) (by decide)
    refine za ?_
    rw [yfb]
    repeat ((conv=>whnf);first|refine zq ?_|refine zg ?_|refine zf ?_|refine zb ?_|refine zr (by first|exact zrw|(rw [zrw];rfl)|exact z9l) ?_|refine zj (by first|exact zrw|(rw [zrw];rfl)|exact z9l) ?_|refine zk (by first|exact zrw|(rw [zrw];rfl)|exact z9l) ?_)
    conv=>whnf
    rw [ycp,List.nil_append]
    have d1:decide (((yq 0 4865 (kyF 4865 (yg [115] (Int.toNat 32))) (ivF 4865 (yg [115] (Int.toNat 32))) 0 23 [120,121,122])++ [9,3,3,0,0]).length<5)=false:=decide_eq_false (by omega)
    have d2:decide (hA ((yq 0 4865 (kyF 4865 (yg [115] (Int.toNat 32))) (ivF 4865 (yg [115] (Int.toNat 32))) 0 23 [120,121,122])++ [9,3,3,0,0]) true= -1)=true:=decide_eq_true q2
    have d3:decide ((((yq 0 4865 (kyF 4865 (yg [115] (Int.toNat 32))) (ivF 4865 (yg [115] (Int.toNat 32))) 0 23 [120,121,122])++ [9,3,3,0,0]).length:Int)<5+hN ((yq 0 4865 (kyF 4865 (yg [115] (Int.toNat 32))) (ivF 4865 (yg [115] (Int.toNat 32))) 0 23 [120,121,122])++ [9,3,3,0,0]))=false:=decide_eq_false (by omega)
    have d4:decide (hK ((yq 0 4865 (kyF 4865 (yg [115] (Int.toNat 32))) (ivF 4865 (yg [115] (Int.toNat 32))) 0 23 [120,121,122])++ [9,3,3,0,0])=20)=false:=decide_eq_false (by omega)
    have d5:decide (hO 4865 (kyF 4865 (yg [115] (Int.toNat 32))) (ivF 4865 (yg [115] (Int.toNat 32))) 0 ((yq 0 4865 (kyF 4865 (yg [115] (Int.toNat 32))) (ivF 4865 (yg [115] (Int.toNat 32))) 0 23 [120,121,122])++ [9,3,3,0,0]))=true:=decide_eq_true q5
    have d6:decide (iA (hP 4865 (kyF 4865 (yg [115] (Int.toNat 32))) (ivF 4865 (yg [115] (Int.toNat 32))) 0 ((yq 0 4865 (kyF 4865 (yg [115] (Int.toNat 32))) (ivF 4865 (yg [115] (Int.toNat 32))) 0 23 [120,121,122])++ [9,3,3,0,0]))= -1)=true:=decide_eq_true (by rw [q6];exact q10)
    have hp3:za3 4865 (kyF 4865 (yg [115] (Int.toNat 32))) (ivF 4865 (yg [115] (Int.toNat 32))) (0+1)∧(hR ((yq 0 4865 (kyF 4865 (yg [115] (Int.toNat 32))) (ivF 4865 (yg [115] (Int.toNat 32))) 0 23 [120,121,122])++ [9,3,3,0,0])).length<9223372036854775808:=⟨⟨.inl rfl,znk _ _,znd _ _,by decide,by decide⟩,by rw [q7];decide⟩
    have d7:decide ((hR ((yq 0 4865 (kyF 4865 (yg [115] (Int.toNat 32))) (ivF 4865 (yg [115] (Int.toNat 32))) 0 23 [120,121,122])++ [9,3,3,0,0])).length<5)=false:=decide_eq_false (by rw [q7];decide)
    have hA7:hA (hR ((yq 0 4865 (kyF 4865 (yg [115] (Int.toNat 32))) (ivF 4865 (yg [115] (Int.toNat 32))) 0 23 [120,121,122])++ [9,3,3,0,0])) true=10:=by rw [q7];exact ykj
    have d8:decide (hA (hR ((yq 0 4865 (kyF 4865 (yg [115] (Int.toNat 32))) (ivF 4865 (yg [115] (Int.toNat 32))) 0 23 [120,121,122])++ [9,3,3,0,0])) true= -1)=false:=decide_eq_false (by rw [hA7];decide)
    have d9:(decide (hK abH=22)&&(decide (hT abH= [97,98])&&true))=true:=by rw [yh3,yhr];rfl
    have d10:decide (((yq 0 4865 (kyF 4865 (yg [115] (Int.toNat 32))) (ivF 4865 (yg [115] (Int.toNat 32))) 0 23 [120,121,122]).length:Int)=25)=true:=decide_eq_true (by omega)
    have d11:decide (iK (hP 4865 (kyF 4865 (yg [115] (Int.toNat 32))) (ivF 4865 (yg [115] (Int.toNat 32))) 0 ((yq 0 4865 (kyF 4865 (yg [115] (Int.toNat 32))) (ivF 4865 (yg [115] (Int.toNat 32))) 0 23 [120,121,122])++ [9,3,3,0,0]))=23)=true:=decide_eq_true (by rw [q6];exact q9)
    have d12:decide ((hP 4865 (kyF 4865 (yg [115] (Int.toNat 32))) (ivF 4865 (yg [115] (Int.toNat 32))) 0 ((yq 0 4865 (kyF 4865 (yg [115] (Int.toNat 32))) (ivF 4865 (yg [115] (Int.toNat 32))) 0 23 [120,121,122])++ [9,3,3,0,0])).take (lnz (hP 4865 (kyF 4865 (yg [115] (Int.toNat 32))) (ivF 4865 (yg [115] (Int.toNat 32))) 0 ((yq 0 4865 (kyF 4865 (yg [115] (Int.toNat 32))) (ivF 4865 (yg [115] (Int.toNat 32))) 0 23 [120,121,122])++ [9,3,3,0,0])) (hP 4865 (kyF 4865 (yg [115] (Int.toNat 32))) (ivF 4865 (yg [115] (Int.toNat 32))) 0 ((yq 0 4865 (kyF 4865 (yg [115] (Int.toNat 32))) (ivF 4865 (yg [115] (Int.toNat 32))) 0 23 [120,121,122])++ [9,3,3,0,0])).length-1)= [120,121,122])=true:=decide_eq_true (by rw [q6];exact q11)
    have d13:decide (hA (hR ((yq 0 4865 (kyF 4865 (yg [115] (Int.toNat 32))) (ivF 4865 (yg [115] (Int.toNat 32))) 0 23 [120,121,122])++ [9,3,3,0,0])) true=10)=true:=decide_eq_true hA7
    repeat ((conv=>whnf);first|refine zq ?_|refine zg ?_|refine zf ?_|refine zb ?_|refine zr (by first|exact d1|exact d2|exact d3|exact d4|exact d5|exact d6|exact d7|exact d8|exact d9|(rw [d9];rfl)|exact d10|(rw [d10];rfl)|exact d13|(rw [d13];rfl)|(rw [d11,d12];rfl)) ?_|refine zj (by first|exact d1|exact d2|exact d3|exact d4|exact d5|exact d6|exact d7|exact d8|exact d9|(rw [d9];rfl)|exact d10|(rw [d10];rfl)|exact d13|(rw [d13];rfl)|(rw [d11,d12];rfl)) ?_|refine zk (by first|exact d1|exact d2|exact d3|exact d4|exact d5|exact d6|exact d7|exact d8|exact d9|(rw [d9];rfl)|exact d10|(rw [d10];rfl)|exact d13|(rw [d13];rfl)|(rw [d11,d12];rfl)) ?_)
    conv=>whnf
    conv=>whnf
    exact zd [] h
   ·exact h.elim
end Go.Sym.Z

namespace Go.Sym.Z
open Go Go.Proofs.Tryz Go.Sym.Lp Go.Sym.Cha Go.Sym.Sha Go.Sym.Hk Go.Sym.Gcm
set_option maxRecDepth 100000
def ykw:List (Nat×List PStep):= [(6,[⟨0,[]⟩,⟨1,[0]⟩,⟨2,[0]⟩,⟨3,[0,1,2]⟩,⟨4,[0,1,2,3]⟩,⟨5,[0,1,2,3]⟩,⟨6,[0,1,2]⟩,⟨7,[0,1,2]⟩,⟨8,[0,1,2,3,4,5,6,7]⟩,⟨9,[0,1,2,3,4,5,6,7,8]⟩,⟨10,[0,1,2,3,4,5,6,7]⟩,⟨11,[0,1,2]⟩,⟨12,[]⟩,⟨13,[]⟩])]
def yj3:List (Nat×List PStep):= [(1,[⟨0,[]⟩,⟨1,[]⟩,⟨2,[]⟩,⟨3,[]⟩,⟨6,[0,1,2,3]⟩,⟨4,[0,1,2,3,6]⟩,⟨5,[6]⟩,⟨7,[0,1,2,3,5]⟩,⟨8,[]⟩,⟨9,[]⟩])]
def yjn:List (Nat×TyI):= [(3,ty3),(4,ty4),(5,ty5),(9,ty9),(48,zd5),(51,zee),(113,xv),(99,xo),(76,zmx),(78,zmy),(27,zmu),(43,zjw)]
theorem zbz: ∀t i,xa yjn t=some i→yx prog t i:=(ze zcs (ze zc1 (ze zct (ze zcw (ze zbj (ze zbi (ze zbg (ze zca (ze z1d (ze z1p (ze z06 (ze zm9 zat))))))))))))
def zjx (iv:List UInt8) (many:Int):Nat→List UInt8
  |0=>iv
  |i+1=>(zjx iv many i).set (4+i) ((zjx iv many i).getD (4+i) 0^^^(beB many 8).getD i 0)
theorem zwq (iv:List UInt8) (many:Int): ∀i,(zjx iv many i).length=iv.length
  |0=>rfl
  |i+1=>by simp only [zjx,List.length_set];exact zwq iv many i
theorem ybg {iv:List UInt8} (h:iv.length=12) (many:Int):zjx iv many 8=ncF iv many:=by
  obtain ⟨a0,a1,a2,a3,a4,a5,a6,a7,a8,a9,b0,b1,rfl⟩:=zyh h
  unfold ncF
  rfl
attribute [local irreducible] za2 exF kyF ivF xi zau y0 inL ncF lnz iA hA hN hK zjx beB
def zt2:Spec:=fun args hp K=>match args,hp with
  | [.agg [.int w,.str key,.str iv,.int many,.bool on]],[]=>Pre (iv.length=12∧0≤many∧many<9223372036854775808) (K (.str (ncF iv many)) [])
  |_,_=>False
set_option maxHeartbeats 4000000 in
theorem zv2:zp prog 47 zt2:=by
  refine zm zbz (zc zwv zi) rfl func47 rfl call47 (D:=ykw) ?_ ?_
  ·intro args hp K h
   unfold zt2 at h
   split at h
   ·exact Nat.le_of_ble_eq_true rfl
   ·exact h.elim
  ·intro args hp K h
   unfold zt2 at h
   split at h
   ·rename_i w key iv many on
    obtain ⟨⟨hiv,h0,h1⟩,h⟩:=zn h
    have hbl:=zah many (Int.toNat 8)
    rw [←ybg hiv many] at h
    refine za ?_
    refine y3 fun tl=>?_
    refine za ?_
    refine zt (Ix (8)) (fun q=>⟨[(3,.sl 1 0 0 [] iv.length (iv.length+tl.length)),(4,.str (beB many (Int.toNat 8))),(5,.int (q.i:Int))],[.dead,.mk 5 [.arr8 (iv.length+tl.length) (zjx iv many q.i++tl)]]⟩) (fun q=>(8)-q.i) ⟨0,Nat.zero_le _⟩ [0,1] ?_ ?_
    ·repeat ((conv=>whnf);refine zb ?_)
     conv=>whnf
     exact zl (congrArg (fun x=>SV.agg [SV.arr8 (iv.length+tl.length) (x++tl)]) (show iv=zjx iv many 0 by unfold zjx;rfl))
    ·intro q
     have hi:=q.hi
     have hl:=zwq iv many q.i
     rw [hiv] at hl
     have hla:(zjx iv many q.i++tl).length=12+tl.length:=by rw [List.length_append,hl]
     have hof:off (yd [] (4+(q.i:Int)).toNat ty5.sz)=4+q.i:=by rw [zy];show 0+(4+(q.i:Int)).toNat*1=_;omega
     have hI:((q.i:Nat):Int).toNat=q.i:=Int.toNat_natCast _
     by_cases h4:q.i<8
     ·refine za ?_
      refine ⟨⟨q.i+1,h4⟩,[0,1],by show (8)-(q.i+1)<(8)-q.i;omega,?_⟩
      repeat ((conv=>whnf);refine zb ?_)
      conv=>whnf
      exact zl (congrArg (fun x=>SV.agg [SV.arr8 (iv.length+tl.length) x]) (show _=zjx iv many (q.i+1)++tl by simp only [zjx];rw [hof,hI,List.set_append_left _ _ (by omega),List.getD_eq_getElem?_getD,List.getElem?_append_left (by omega),←List.getD_eq_getElem?_getD];rfl))
     ·have e4:q.i=8:=by omega
      rw [e4] at hl hla
      rw [e4]
      have hT:List.take iv.length (List.drop (off []) (zjx iv many 8++tl))=zjx iv many 8:=by
        show List.take iv.length (List.drop 0 _)=_;rw [List.drop_zero,hiv];exact List.take_left' hl
      refine za ?_
      rw [hT]
      refine za ?_
      conv=>whnf
      exact zd [] h
   ·exact h.elim
def zpf:Spec:=fun args hp K=>match args,hp with
  | [.int kind,.int n],[]=>Pre (0≤n∧n≤100000) (K (.str (hdF kind n)) [])
  |_,_=>False
theorem z2v:zp prog 46 zpf:=by
  refine zm zbz (zc zwv zi) rfl func46 rfl call46 (D:=yj3) ?_ ?_
  ·intro args hp K h
   unfold zpf at h
   split at h
   ·exact Nat.le_of_ble_eq_true rfl
   ·exact h.elim
  ·intro args hp K h
   unfold zpf at h
   split at h
   ·rename_i kind n
    obtain ⟨⟨h0,h1⟩,h⟩:=zn h
    have hb1:=zah 771 (Int.toNat 2)
    have hb2:=zah n (Int.toNat 2)
    refine za ?_
    rw [zex]
    refine za ?_
    rw [yda,yda]
    conv=>whnf
    exact zd [] h
   ·exact h.elim
end Go.Sym.Z

namespace Go.Sym.Z
open Go Go.Proofs.Tryz Go.Sym.Lp Go.Sym.Cha Go.Sym.Sha Go.Sym.Hk Go.Sym.Gcm
set_option maxRecDepth 100000
def ykf:List (Nat×List PStep):= []
def ylk:List (Nat×List PStep):= []
def ykz:List (Nat×List PStep):= []
def yj7:List (Nat×List PStep):= []
def yk6:List (Nat×List PStep):= [(3,[⟨0,[]⟩,⟨1,[0]⟩,⟨2,[0]⟩,⟨3,[0]⟩,⟨4,[0]⟩,⟨5,[0,1,2,3,4]⟩,⟨6,[0,1,2,3,4]⟩,⟨7,[0,1,2,3,4]⟩,⟨8,[0,1,2,3,4]⟩,⟨9,[0,1,2,3,4]⟩,⟨10,[0]⟩,⟨11,[]⟩,⟨12,[]⟩]),(4,[⟨0,[]⟩,⟨1,[0]⟩,⟨2,[0]⟩,⟨3,[0]⟩,⟨4,[0]⟩,⟨5,[0,1,2,3,4]⟩,⟨6,[0,1,2,3,4,5]⟩,⟨7,[0,1,2,3,4]⟩,⟨8,[0]⟩,⟨9,[]⟩,⟨10,[]⟩,⟨11,[]⟩])]
def ykk:List (Nat×List PStep):= []
def yjp:List (Nat×List PStep):= []
attribute [local irreducible] za2 exF kyF ivF xi zau y0 inL ncF lnz iA hA hN hK
def zsp (p rg:Int):Prop:=(0≤p∧p≤16384)∧(rg=0∨(33290≤rg∧rg≤262144))
instance (p rg:Int):Decidable (zsp p rg):=by unfold zsp;exact inferInstance
def zud:Spec:=fun args hp K=>match args,hp with
  | [.int p,.int rg],[]=>zx (decide (zsp p rg)) (K (.tup [.ptr 0 0 0 [],.bool true]) [.mk 78 [.int p,.int rg,.int 0,.str [],.str [],.int 0,.bool false,.int 0,.str [],.str [],.int 0,.bool false,.str [],.int (-1)]]) (K (.tup [.nilptr,.bool false]) [])
  |_,_=>False
set_option maxHeartbeats 4000000 in
theorem yan:zp prog 11 zud:=by
  refine zm zbz zi rfl func11 rfl call11 (D:=ykf) ?_ ?_
  ·intro args hp K h
   unfold zud at h
   split at h
   ·exact Nat.le_of_ble_eq_true rfl
   ·exact h.elim
  ·intro args hp K h
   unfold zud at h
   split at h
   ·rename_i p rg
    obtain ⟨ht,hf⟩:=zw h
    by_cases h1:0≤p
    ·by_cases h2:p≤16384
     ·by_cases h3:rg=0
      ·have h:=ht (decide_eq_true ⟨⟨h1,h2⟩,.inl h3⟩)
       refine za ?_
       exact zd [0] h
      ·by_cases h4:33290≤rg
       ·by_cases h5:rg≤262144
        ·have h:=ht (decide_eq_true ⟨⟨h1,h2⟩,.inr ⟨h4,h5⟩⟩)
         refine za ?_
         exact zd [0] h
        ·have h:=hf (decide_eq_false (by unfold zsp;omega))
         refine za ?_
         exact zd [] h
       ·have h:=hf (decide_eq_false (by unfold zsp;omega))
        refine za ?_
        exact zd [] h
     ·have h:=hf (decide_eq_false (by unfold zsp;omega))
      refine za ?_
      exact zd [] h
    ·have h:=hf (decide_eq_false (by unfold zsp;omega))
     refine za ?_
     exact zd [] h
   ·exact h.elim
def zm7:Spec:=fun args hp K=>match args,hp with
  | [.ptr 0 0 0 [],.int w,.str s],[.mk t0 [.int p,.int rg,.int rs,.str rk,.str ri,.int rc,.bool ro,.int ws,.str wk,.str wi,.int wc,.bool wo,.str held,.int f]]=>Pre (s.length≤140737488351232) (zx (decide (su w)) (K (.bool true) [.mk t0 [.int p,.int rg,.int w,.str (kyF w s),.str (ivF w s),.int 0,.bool true,.int ws,.str wk,.str wi,.int wc,.bool wo,.str held,.int f]]) (K (.bool false) [.mk t0 [.int p,.int rg,.int rs,.str rk,.str ri,.int rc,.bool ro,.int ws,.str wk,.str wi,.int wc,.bool wo,.str held,.int f]]))
  |_,_=>False
set_option maxHeartbeats 4000000 in
theorem z6s:zp prog 17 zm7:=by
  refine zm zbz (zc z1t zi) rfl func17 rfl call17 (D:=ylk) ?_ ?_
  ·intro args hp K h
   unfold zm7 at h
   split at h
   ·exact Nat.le_of_ble_eq_true rfl
   ·exact h.elim
  ·intro args hp K h
   unfold zm7 at h
   split at h
   ·rename_i w s t0 p rg rs rk ri rc ro ws wk wi wc wo held f
    obtain ⟨hs,h⟩:=zn h
    obtain ⟨ht,hf⟩:=zw h
    generalize e:decide (su w)=c at ht hf
    cases c
    ·have h:=hf rfl
     refine za ?_
     exact zd [0] h
    ·have h:=ht rfl
     refine za ?_
     exact zd [0] h
   ·exact h.elim
def zko:Spec:=fun args hp K=>match args,hp with
  | [.ptr 0 0 0 [],.int w,.str s],[.mk t0 [.int p,.int rg,.int rs,.str rk,.str ri,.int rc,.bool ro,.int ws,.str wk,.str wi,.int wc,.bool wo,.str held,.int f]]=>Pre (s.length≤140737488351232) (zx (decide (su w)) (K (.bool true) [.mk t0 [.int p,.int rg,.int rs,.str rk,.str ri,.int rc,.bool ro,.int w,.str (kyF w s),.str (ivF w s),.int 0,.bool true,.str held,.int f]]) (K (.bool false) [.mk t0 [.int p,.int rg,.int rs,.str rk,.str ri,.int rc,.bool ro,.int ws,.str wk,.str wi,.int wc,.bool wo,.str held,.int f]]))
  |_,_=>False
set_option maxHeartbeats 4000000 in
theorem z33:zp prog 19 zko:=by
  refine zm zbz (zc z1t zi) rfl func19 rfl call19 (D:=ykz) ?_ ?_
  ·intro args hp K h
   unfold zko at h
   split at h
   ·exact Nat.le_of_ble_eq_true rfl
   ·exact h.elim
  ·intro args hp K h
   unfold zko at h
   split at h
   ·rename_i w s t0 p rg rs rk ri rc ro ws wk wi wc wo held f
    obtain ⟨hs,h⟩:=zn h
    obtain ⟨ht,hf⟩:=zw h
    generalize e:decide (su w)=c at ht hf
    cases c
    ·have h:=hf rfl
     refine za ?_
     exact zd [0] h
    ·have h:=ht rfl
     refine za ?_
     exact zd [0] h
   ·exact h.elim
def zth:Spec:=fun args hp K=>match args,hp with
  | [.ptr 0 0 0 []],[.mk t0 [.int p,.int rg,.int rs,.str rk,.str ri,.int rc,.bool ro,.int ws,.str wk,.str wi,.int wc,.bool wo,.str held,.int f]]=>K (.int wc) [.mk t0 [.int p,.int rg,.int rs,.str rk,.str ri,.int rc,.bool ro,.int ws,.str wk,.str wi,.int wc,.bool wo,.str held,.int f]]
  |_,_=>False
set_option maxHeartbeats 4000000 in
theorem ya4:zp prog 25 zth:=by
  refine zm zbz zi rfl func25 rfl call25 (D:=yj7) ?_ ?_
  ·intro args hp K h
   unfold zth at h
   split at h
   ·exact Nat.le_of_ble_eq_true rfl
   ·exact h.elim
  ·intro args hp K h
   unfold zth at h
   split at h
   ·rename_i t0 p rg rs rk ri rc ro ws wk wi wc wo held f
    refine za ?_
    exact zd [0] h
   ·exact h.elim
def zox (rg:Int) (m n:Nat):Int:=if 0<rg then min (n:Int) (rg-m) else n
def zui:Spec:=fun args hp K=>match args,hp with
  | [.ptr 0 0 0 [],.str s],[.mk t0 [.int p,.int rg,.int rs,.str rk,.str ri,.int rc,.bool ro,.int ws,.str wk,.str wi,.int wc,.bool wo,.str held,.int f]]=>Pre (0≤rg∧rg≤262144∧(0<rg→(held.length:Int)≤rg)∧held.length+s.length<9223372036854775808) (K (.int (zox rg held.length s.length)) [.mk t0 [.int p,.int rg,.int rs,.str rk,.str ri,.int rc,.bool ro,.int ws,.str wk,.str wi,.int wc,.bool wo,.str (held++s.take (zox rg held.length s.length).toNat),.int f]])
  |_,_=>False
set_option maxHeartbeats 4000000 in
theorem yap:zp prog 15 zui:=by
  refine zm zbz zi rfl func15 rfl call15 (D:=yk6) ?_ ?_
  ·intro args hp K h
   unfold zui at h
   split at h
   ·exact Nat.le_of_ble_eq_true rfl
   ·exact h.elim
  ·intro args hp K h
   unfold zui at h
   split at h
   ·rename_i s t0 p rg rs rk ri rc ro ws wk wi wc wo held f
    obtain ⟨⟨h0,h1,h2,h3⟩,h⟩:=zn h
    unfold zox at h
    by_cases hr:0<rg
    ·rw [if_pos hr] at h
     have h4:=h2 hr
     obtain ⟨m,hm⟩: ∃m,m=min (s.length:Int) (rg-(held.length:Int)):=⟨_,rfl⟩
     rw [←hm] at h
     have hm0:0≤m:=by omega
     have hm1:m≤(s.length:Int):=by omega
     have hln:(List.take m.toNat s).length≤s.length:=by rw [List.length_take];exact Nat.min_le_right _ _
     refine za ?_
     rw [←hm]
     refine za ?_
     exact zd [0] h
    ·rw [if_neg hr] at h
     have hln:(List.take (s.length:Int).toNat s).length≤s.length:=by rw [List.length_take];exact Nat.min_le_right _ _
     refine za ?_
     exact zd [0] h
   ·exact h.elim
set_option maxHeartbeats 4000000 in
theorem z9f:zp prog 50 zie:=by
  refine zm zbz zi rfl func50 rfl call50 (D:=yjp) ?_ ?_
  ·intro args hp K h
   unfold zie at h
   split at h
   ·exact Nat.le_of_ble_eq_true rfl
   ·exact h.elim
  ·intro args hp K h
   unfold zie at h
   split at h
   ·rename_i s a
    obtain ⟨⟨ha,hl,hs⟩,h⟩:=zn h
    refine za ?_
    refine zt (Ix (2)) (fun q=>⟨[(0,.str s),(1,.int a),(2,.int 2),(9,.int (zdo s a.toNat q.i:Nat)),(10,.int q.i)],[]⟩) (fun q=>(2)-q.i) ⟨0,Nat.zero_le _⟩ [] ?_ ?_
    ·exact zo
    ·intro q
     have hi:=q.hi
     have hI:(a+(q.i:Int)).toNat=a.toNat+q.i:=by omega
     by_cases h4:q.i<2
     ·have hb:zdo s a.toNat q.i<256:=by
        have:q.i=0∨q.i=1:=by omega
        rcases this with e|e<;>rw [e]
        ·exact Nat.zero_lt_succ _
        ·simp only [zdo];rw [Nat.mul_zero,Nat.zero_add];exact UInt8.toNat_lt _
      have hsh:(UInt64.ofNat 8).toNat<64∧ya (((zdo s a.toNat q.i:Nat):Int)*2^(UInt64.ofNat 8).toNat):=⟨by decide,by show ya (((zdo s a.toNat q.i:Nat):Int)*256);unfold ya;omega⟩
      have hor:za5 .or (((zdo s a.toNat q.i:Nat):Int)*2^(UInt64.ofNat 8).toNat) (((s.getD (a.toNat+q.i) 0).toNat:Nat):Int)=((zdo s a.toNat (q.i+1):Nat):Int):=by
        have hc:=UInt8.toNat_lt (s.getD (a.toNat+q.i) 0)
        have e:=Nat.two_pow_add_eq_or_of_lt (i:=8) hc (zdo s a.toNat q.i)
        have e2:(((zdo s a.toNat q.i:Nat):Int)*2^(UInt64.ofNat 8).toNat)=((2^8*zdo s a.toNat q.i:Nat):Int):=by show _*(256:Int)=((256*_:Nat):Int);omega
        rw [e2,Go.Sym.Ib.ibits_or (by omega) (by omega) (by rw [←e];omega),←e]
        rfl
      refine za ?_
      conv=>whnf
      refine ⟨⟨q.i+1,h4⟩,[],by show (2)-(q.i+1)<(2)-q.i;omega,?_⟩
      repeat ((conv=>whnf);refine zb ?_)
      conv=>whnf
      exact zl (congrArg SV.int (by rw [←hor,←hI]))
     ·have e4:q.i=2:=by omega
      have e5:((zdo s a.toNat 2:Nat):Int)=256*((s.getD a.toNat 0).toNat:Int)+((s.getD (a.toNat+1) 0).toNat:Int):=by
        simp only [zdo];rw [Nat.mul_zero,Nat.zero_add,Nat.add_zero];omega
      rw [←e5] at h
      rw [e4]
      refine za ?_
      exact zd [] h
   ·exact h.elim
def zxk:Spec:=fun args hp K=>match args,hp with
  | [.ptr 0 0 0 []],[.mk t0 [.int p,.int rg,.int rs,.str rk,.str ri,.int rc,.bool ro,.int ws,.str wk,.str wi,.int wc,.bool wo,.str held,.int f]]=>Pre (5≤held.length∧held.length<9223372036854775808) (K (.int (hA held ro)) [.mk t0 [.int p,.int rg,.int rs,.str rk,.str ri,.int rc,.bool ro,.int ws,.str wk,.str wi,.int wc,.bool wo,.str held,.int f]])
  |_,_=>False
set_option maxHeartbeats 8000000 in
theorem yca:zp prog 49 zxk:=by
  refine zm zbz (zc z9f zi) rfl func49 rfl call49 (D:=ykk) ?_ ?_
  ·intro args hp K h
   unfold zxk at h
   split at h
   ·exact Nat.le_of_ble_eq_true rfl
   ·exact h.elim
  ·intro args hp K h
   unfold zxk at h
   split at h
   ·rename_i t0 p rg rs rk ri rc ro ws wk wi wc wo held f
    obtain ⟨⟨h5,hl⟩,h⟩:=zn h
    obtain ⟨k,hkd⟩: ∃k,k=((held.getD (Int.toNat 0) 0).toNat:Int):=⟨_,rfl⟩
    have hKk:hK held=k:=by rw [hkd];unfold hK;rfl
    obtain ⟨n,hnd⟩: ∃n,n=256*((held.getD (Int.toNat 3) 0).toNat:Int)+((held.getD (Int.toNat 3+1) 0).toNat:Int):=⟨_,rfl⟩
    have hNn:hN held=n:=by rw [hnd];unfold hN;rfl
    have hpn:0≤(3:Int)∧(3:Int)+2≤(held.length:Int)∧held.length<9223372036854775808:=⟨by decide,by omega,hl⟩
    have b0:=(held.getD (Int.toNat 0) 0).toNat_lt
    have hv:hA held ro=if yf k then (if (if ro=true∧k=23 then 16640 else 16384)<n then 22 else if ro=true∧(k=21∨k=22) then 10 else-1) else 10:=by unfold hA;rw [hKk,hNn]
    rw [hv] at h
    have hk0:0≤k∧k<256:=by omega
    refine za ?_
    rw [←hkd,←hnd]
    have six:k<20∨23<k∨k=20∨k=21∨k=22∨k=23:=by omega
    have n3:n≤16384∨(16384<n∧n≤16640)∨16640<n:=by omega
    clear hkd hnd hv hKk hNn b0
    cases ro
    ·rcases six with hk|hk|hk|hk|hk|hk
     ·rw [if_neg (by unfold yf;omega)] at h
      refine za ?_
      exact zd [0] h
     ·rw [if_neg (by unfold yf;omega)] at h
      refine za ?_
      exact zd [0] h
     ·rw [if_pos (by unfold yf;omega)] at h
      rcases n3 with hn|hn|hn
      ·have hm:(if false=true∧k=23 then (16640:Int) else 16384)=16384:=if_neg (fun h=>Bool.noConfusion h.1)
       rw [hm,if_neg (by omega),if_neg (fun h=>Bool.noConfusion h.1)] at h
       refine za ?_
       exact zd [0] h
      ·have hm:(if false=true∧k=23 then (16640:Int) else 16384)=16384:=if_neg (fun h=>Bool.noConfusion h.1)
       rw [hm,if_pos (by omega)] at h
       refine za ?_
       exact zd [0] h
      ·have hm:(if false=true∧k=23 then (16640:Int) else 16384)=16384:=if_neg (fun h=>Bool.noConfusion h.1)
       rw [hm,if_pos (by omega)] at h
       refine za ?_
       exact zd [0] h
     ·rw [if_pos (by unfold yf;omega)] at h
      rcases n3 with hn|hn|hn
      ·have hm:(if false=true∧k=23 then (16640:Int) else 16384)=16384:=if_neg (fun h=>Bool.noConfusion h.1)
       rw [hm,if_neg (by omega),if_neg (fun h=>Bool.noConfusion h.1)] at h
       refine za ?_
       exact zd [0] h
      ·have hm:(if false=true∧k=23 then (16640:Int) else 16384)=16384:=if_neg (fun h=>Bool.noConfusion h.1)
       rw [hm,if_pos (by omega)] at h
       refine za ?_
       exact zd [0] h
      ·have hm:(if false=true∧k=23 then (16640:Int) else 16384)=16384:=if_neg (fun h=>Bool.noConfusion h.1)
       rw [hm,if_pos (by omega)] at h
       refine za ?_
       exact zd [0] h
     ·rw [if_pos (by unfold yf;omega)] at h
      rcases n3 with hn|hn|hn
      ·have hm:(if false=true∧k=23 then (16640:Int) else 16384)=16384:=if_neg (fun h=>Bool.noConfusion h.1)
       rw [hm,if_neg (by omega),if_neg (fun h=>Bool.noConfusion h.1)] at h
       refine za ?_
       exact zd [0] h
      ·have hm:(if false=true∧k=23 then (16640:Int) else 16384)=16384:=if_neg (fun h=>Bool.noConfusion h.1)
       rw [hm,if_pos (by omega)] at h
       refine za ?_
       exact zd [0] h
      ·have hm:(if false=true∧k=23 then (16640:Int) else 16384)=16384:=if_neg (fun h=>Bool.noConfusion h.1)
       rw [hm,if_pos (by omega)] at h
       refine za ?_
       exact zd [0] h
     ·rw [if_pos (by unfold yf;omega)] at h
      rcases n3 with hn|hn|hn
      ·have hm:(if false=true∧k=23 then (16640:Int) else 16384)=16384:=if_neg (fun h=>Bool.noConfusion h.1)
       rw [hm,if_neg (by omega),if_neg (fun h=>Bool.noConfusion h.1)] at h
       refine za ?_
       exact zd [0] h
      ·have hm:(if false=true∧k=23 then (16640:Int) else 16384)=16384:=if_neg (fun h=>Bool.noConfusion h.1)
       rw [hm,if_pos (by omega)] at h
       refine za ?_
       exact zd [0] h
      ·have hm:(if false=true∧k=23 then (16640:Int) else 16384)=16384:=if_neg (fun h=>Bool.noConfusion h.1)
       rw [hm,if_pos (by omega)] at h
       refine za ?_
       exact zd [0] h
    ·rcases six with hk|hk|hk|hk|hk|hk
     ·rw [if_neg (by unfold yf;omega)] at h
      refine za ?_
      exact zd [0] h
     ·rw [if_neg (by unfold yf;omega)] at h
      refine za ?_
      exact zd [0] h
     ·rw [if_pos (by unfold yf;omega)] at h
      rcases n3 with hn|hn|hn
      ·have hm:(if true=true∧k=23 then (16640:Int) else 16384)=16384:=if_neg (fun h=>by omega)
       rw [hm,if_neg (by omega),if_neg (fun h=>by omega)] at h
       refine za ?_
       exact zd [0] h
      ·have hm:(if true=true∧k=23 then (16640:Int) else 16384)=16384:=if_neg (fun h=>by omega)
       rw [hm,if_pos (by omega)] at h
       refine za ?_
       exact zd [0] h
      ·have hm:(if true=true∧k=23 then (16640:Int) else 16384)=16384:=if_neg (fun h=>by omega)
       rw [hm,if_pos (by omega)] at h
       refine za ?_
       exact zd [0] h
     ·rw [if_pos (by unfold yf;omega)] at h
      rcases n3 with hn|hn|hn
      ·have hm:(if true=true∧k=23 then (16640:Int) else 16384)=16384:=if_neg (fun h=>by omega)
       rw [hm,if_neg (by omega),if_pos ⟨rfl,by omega⟩] at h
       refine za ?_
       exact zd [0] h
      ·have hm:(if true=true∧k=23 then (16640:Int) else 16384)=16384:=if_neg (fun h=>by omega)
       rw [hm,if_pos (by omega)] at h
       refine za ?_
       exact zd [0] h
      ·have hm:(if true=true∧k=23 then (16640:Int) else 16384)=16384:=if_neg (fun h=>by omega)
       rw [hm,if_pos (by omega)] at h
       refine za ?_
       exact zd [0] h
     ·rw [if_pos (by unfold yf;omega)] at h
      rcases n3 with hn|hn|hn
      ·have hm:(if true=true∧k=23 then (16640:Int) else 16384)=16384:=if_neg (fun h=>by omega)
       rw [hm,if_neg (by omega),if_pos ⟨rfl,by omega⟩] at h
       refine za ?_
       exact zd [0] h
      ·have hm:(if true=true∧k=23 then (16640:Int) else 16384)=16384:=if_neg (fun h=>by omega)
       rw [hm,if_pos (by omega)] at h
       refine za ?_
       exact zd [0] h
      ·have hm:(if true=true∧k=23 then (16640:Int) else 16384)=16384:=if_neg (fun h=>by omega)
       rw [hm,if_pos (by omega)] at h
       refine za ?_
       exact zd [0] h
     ·rw [if_pos (by unfold yf;omega)] at h
      rcases n3 with hn|hn|hn
      ·have hm:(if true=true∧k=23 then (16640:Int) else 16384)=16640:=if_pos ⟨rfl,hk⟩
       rw [hm,if_neg (by omega),if_neg (fun h=>by omega)] at h
       refine za ?_
       exact zd [0] h
      ·have hm:(if true=true∧k=23 then (16640:Int) else 16384)=16640:=if_pos ⟨rfl,hk⟩
       rw [hm,if_neg (by omega),if_neg (fun h=>by omega)] at h
       refine za ?_
       exact zd [0] h
      ·have hm:(if true=true∧k=23 then (16640:Int) else 16384)=16640:=if_pos ⟨rfl,hk⟩
       rw [hm,if_pos (by omega)] at h
       refine za ?_
       exact zd [0] h
   ·exact h.elim
end Go.Sym.Z

namespace Go.Sym.Z
open Go Go.Proofs.Tryz Go.Sym.Lp Go.Sym.Cha Go.Sym.Sha Go.Sym.Hk Go.Sym.Gcm
set_option maxRecDepth 100000
def yky:List (Nat×List PStep):= [(7,[⟨0,[]⟩,⟨1,[]⟩,⟨2,[0,1]⟩,⟨3,[0,1]⟩,⟨4,[0,1]⟩,⟨5,[0,1]⟩,⟨6,[]⟩,⟨7,[]⟩,⟨8,[0,1,2,3,4,5,6,7]⟩,⟨9,[0,1,2,3,4,5,6,7]⟩,⟨10,[0,1,2,3,4,5,6,7]⟩,⟨11,[0,1,2,3,4,5,6,7]⟩,⟨12,[]⟩,⟨13,[0,1,2,3,4,5,6,7,8,9,10,11,12]⟩,⟨14,[0,1,2,3,4,5,6,7,8,9,10,11,12]⟩,⟨15,[0,1,2,3,4,5,6,7,8,9,10,11,12]⟩,⟨16,[0,1,2,3,4,5,6,7,8,9,10,11,12]⟩,⟨17,[]⟩,⟨18,[]⟩]),(10,[⟨0,[]⟩,⟨1,[]⟩,⟨2,[]⟩,⟨3,[]⟩,⟨4,[]⟩,⟨5,[0,1,2,3,4]⟩,⟨6,[0,1,2,3,4]⟩,⟨7,[0,1,2,3,4]⟩,⟨8,[0,1,2,3,4]⟩,⟨9,[0,1,2,3,4]⟩,⟨10,[0,1,2,3,4,5,6,7,8,9]⟩,⟨11,[0,1,2,3,4,5,6,7,8,9]⟩,⟨12,[0,1,2,3,4,5,6,7,8,9]⟩,⟨13,[0,1,2,3,4,5,6,7,8,9]⟩,⟨15,[0,1,2,3,4,5,6,7,8,9,10,11,12,13]⟩,⟨16,[0,1,2,3,4,5,6,7,8,9,10,11,12,13,15]⟩,⟨14,[0,1,2,3,4,5,6,7,8,9,15,16]⟩,⟨17,[]⟩,⟨18,[]⟩,⟨19,[]⟩,⟨20,[19]⟩,⟨21,[20]⟩,⟨22,[]⟩])]
theorem zru {k:Int} (h:yf k):20≤k∧k≤23:=by unfold yf at h;omega
theorem z3o {k:Int} (h0: ¬k<20) (h1: ¬23<k):yf k:=by unfold yf;omega
theorem yc9 (kind:Int) (s:List UInt8) {p:Int} (h: ¬0<p):zao p kind s=s++ [UInt8.ofInt kind]:=by
  unfold zao inL;rw [if_neg h,show ((s.length:Int)+1).toNat-s.length-1=0 by omega];rfl
theorem yec (kind:Int) (s:List UInt8) {p:Int} {L:Nat} (h:inL p s.length=(L:Int)) (hl:s.length+1≤L):zao p kind s=s++ [UInt8.ofInt kind]++List.replicate (L-(s.length+1)) 0:=by
  unfold zao;rw [h,Int.toNat_natCast,List.append_assoc,show L-s.length-1=L-(s.length+1) by omega];rfl
attribute [local irreducible] za2 exF kyF ivF xi zau y0 inL ncF lnz iA hA hN hK hdF yq zao
def zut:Spec:=fun args hp K=>match args,hp with
  | [.ptr 0 0 0 [],.int kind,.str s],[.mk t0 [.int p,.int rg,.int rs,.str rk,.str ri,.int rc,.bool ro,.int ws,.str wk,.str wi,.int wc,.bool wo,.str held,.int f]]=>Pre ((wo=true→za3 ws wk wi wc)∧0≤p∧p≤16384∧s.length≤140737488351232) (zx (decide (yf kind∧s.length≤16384)) (zx wo (K (.tup [.str (yq p ws wk wi wc kind s),.bool true]) [.mk t0 [.int p,.int rg,.int rs,.str rk,.str ri,.int rc,.bool ro,.int ws,.str wk,.str wi,.int (wc+1),.bool wo,.str held,.int f]]) (K (.tup [.str (hdF kind s.length++s),.bool true]) [.mk t0 [.int p,.int rg,.int rs,.str rk,.str ri,.int rc,.bool ro,.int ws,.str wk,.str wi,.int wc,.bool wo,.str held,.int f]])) (K (.tup [.str [],.bool false]) [.mk t0 [.int p,.int rg,.int rs,.str rk,.str ri,.int rc,.bool ro,.int ws,.str wk,.str wi,.int wc,.bool wo,.str held,.int f]]))
  |_,_=>False
set_option maxHeartbeats 8000000 in
theorem yay:zp prog 21 zut:=by
  refine zm zbz (zc z2v (zc zv2 (zc z6e zi))) rfl func21 rfl call21 (D:=yky) ?_ ?_
  ·intro args hp K h
   unfold zut at h
   split at h
   ·exact Nat.le_of_ble_eq_true rfl
   ·exact h.elim
  ·intro args hp K h
   unfold zut at h
   split at h
   ·rename_i kind s t0 p rg rs rk ri rc ro ws wk wi wc wo held f
    obtain ⟨⟨hkw,hp0,hp1,hs⟩,h⟩:=zn h
    obtain ⟨ht,hf⟩:=zw h
    by_cases k0:kind<20
    ·have h:=hf (decide_eq_false fun hh=>by have:=zru hh.1;omega)
     refine za ?_
     exact zd [0] h
    ·by_cases k1:23<kind
     ·have h:=hf (decide_eq_false fun hh=>by have:=zru hh.1;omega)
      refine za ?_
      exact zd [0] h
     ·by_cases k2:16384<s.length
      ·have h:=hf (decide_eq_false fun hh=>by omega)
       refine za ?_
       exact zd [0] h
      ·have h:=ht (decide_eq_true ⟨z3o k0 k1,by omega⟩)
       obtain ⟨ht,hf⟩:=zw h
       cases wo
       ·have h:=hf rfl
        have hhl:=zb6 kind (s.length:Int)
        refine za ?_
        exact zd [0] h
       ·have h:=ht rfl
        have hok:=hkw rfl
        have hky:=zgu hok
        obtain ⟨hw,hkl,hiv,hm0,hm1⟩:=hok
        have hnl:=zk3 wi wc
        have hpn:wi.length=12∧0≤wc∧wc<9223372036854775808:=⟨hiv,hm0,by omega⟩
        obtain ⟨hi1,hi2⟩:=zjk (p:=p) (n:=(s.length:Int)) (by omega) (by omega) hp0
        obtain ⟨L,hL⟩: ∃L:Nat,inL p (s.length:Int)=(L:Int):=⟨_,(Int.toNat_of_nonneg (by omega)).symm⟩
        have hhl:=zb6 23 ((L:Int)+16)
        have hIn:(zao p kind s).length=L:=by have:=(zki (p:=p) (kind:=kind) (s:=s) (by omega) hp0).1;omega
        have hd1:zd9 ws wk.length∧(ncF wi wc).length=12∧(hdF 23 ((L:Int)+16)).length≤65536∧(L:Int)≤65536:=⟨hky,by omega,by omega,by omega⟩
        have hsl:(xi ws wk (ncF wi wc) (hdF 23 ((L:Int)+16)) (zao p kind s)).length=L+16:=by rw [zdy,hIn]
        have hF:yq p ws wk wi wc kind s=hdF 23 ((L:Int)+16)++xi ws wk (ncF wi wc) (hdF 23 ((L:Int)+16)) (zao p kind s):=by unfold yq;rw [hL]
        have hhp:0≤(L:Int)+16∧(L:Int)+16≤100000:=by omega
        rw [hF] at h
        obtain ⟨X,hX⟩: ∃X,X=s++ [UInt8.ofInt kind]:=⟨_,rfl⟩
        have hXl:X.length=s.length+1:=by rw [hX,List.length_append];rfl
        have hXi:(s.length:Int)+1=(X.length:Int):=by omega
        by_cases hp:0<p
        ·have hq:((X.length:Int)+p-1).tdiv p=((X.length:Int)+p-1)/ p:=Int.tdiv_eq_ediv_of_nonneg (by omega)
         have hmm1:=Int.ediv_mul_le ((X.length:Int)+p-1) (show p≠0 by omega)
         have hmm0:0≤((X.length:Int)+p-1)/ p:=Int.ediv_nonneg (by omega) (by omega)
         have hmm2:0≤((X.length:Int)+p-1)/ p*p:=Int.mul_nonneg hmm0 hp0
         have hmm3:((X.length:Int)+p-1)/ p≤(X.length:Int)+p-1:=Int.ediv_le_self _ (by omega)
         have hG:min (((X.length:Int)+p-1).tdiv p*p) 16385=(L:Int):=by rw [←hL,hq,←hXi];unfold inL;rw [if_pos hp]
         have hpd:p≠0∧ya (((X.length:Int)+p-1).tdiv p):=⟨by omega,by rw [hq];unfold ya;omega⟩
         have hpm:ya (((X.length:Int)+p-1).tdiv p*p):=by rw [hq];unfold ya;omega
         have hIF:zao p kind s=X++List.replicate (L-X.length) 0:=by rw [hX,List.length_append];exact yec kind s hL (by omega)
         have hLX:((L:Int)-(X.length:Int)).toNat=L-X.length:=by omega
         have hrl:(List.replicate (L-X.length) (0:UInt8)).length=L-X.length:=List.length_replicate
         rw [hIF] at h hIn hsl
         refine za ?_
         rw [zex,←hX]
         have hIni:((X++List.replicate (L-X.length) (0:UInt8)).length:Int)=(L:Int):=by omega
         repeat ((conv=>whnf);first|refine zr (by assumption) ?_|refine zg ?_|refine zf ?_|refine zb ?_)
         conv=>whnf
         rw [hG]
         clear hpd hpm hG hq hmm0 hmm1 hmm2 hmm3
         have hpA:((L:Int)-(X.length:Int)).toNat*ty5.sz≤16777216:=by rw [hLX];show (L-X.length)*1≤_;omega
         have hpD:off []+((L:Int)-(X.length:Int)).toNat≤(List.replicate ((L:Int)-(X.length:Int)).toNat (0:UInt8)).length:=by rw [List.length_replicate];show 0+_≤_;omega
         have hpE:X.length+(List.take ((L:Int)-(X.length:Int)).toNat (List.drop (off []) (List.replicate ((L:Int)-(X.length:Int)).toNat (0:UInt8)))).length<9223372036854775808:=by rw [hLX,zdh,hrl];omega
         have hpG:ya (((X++List.take ((L:Int)-(X.length:Int)).toNat (List.drop (off []) (List.replicate ((L:Int)-(X.length:Int)).toNat (0:UInt8)))).length:Int)+16):=by rw [hLX,zdh,hIni];unfold ya;omega
         have hpH:0≤(((X++List.take ((L:Int)-(X.length:Int)).toNat (List.drop (off []) (List.replicate ((L:Int)-(X.length:Int)).toNat (0:UInt8)))).length:Int)+16)∧(((X++List.take ((L:Int)-(X.length:Int)).toNat (List.drop (off []) (List.replicate ((L:Int)-(X.length:Int)).toNat (0:UInt8)))).length:Int)+16)≤100000:=by rw [hLX,zdh,hIni];exact hhp
         have hpC:((L:Int)-(X.length:Int)).toNat≤((L:Int)-(X.length:Int)).toNat∧ty5.bytes*((L:Int)-(X.length:Int)).toNat≤281474976710656∧((L:Int)-(X.length:Int)).toNat<9223372036854775808:=by rw [hLX];exact ⟨Nat.le_refl _,by show 1*(L-X.length)≤_;omega,by omega⟩
         refine za ?_
         rw [hLX,zdh,hIni]
         refine zj (decide_eq_true hd1) ?_
         refine za ?_
         conv=>whnf
         exact zd [0] h
        ·obtain ⟨Y,hY⟩: ∃Y,Y=s++List.take 1 (List.drop (off []) ((List.replicate 1 0).set (off [(0,ty5.sz)]) (UInt8.ofInt kind))):=⟨_,rfl⟩
         have hYX:Y=X:=by rw [hY,zex,hX]
         have hYl:Y.length=s.length+1:=by rw [hYX,hXl]
         have hf16:ya ((Y.length:Int)+16):=by unfold ya;omega
         rw [hY] at hf16
         repeat ((conv=>whnf);first|refine zr (by first|assumption|omega|(unfold ya;omega)|(simp only [szl,off,zsk]<;>omega)|exact pk (by kernel_rfl)|(constructor<;>first|assumption|omega)) ?_|refine zg ?_|refine zf ?_|refine zb ?_)
         conv=>whnf
         rw [zex]
         have hIF:zao p kind s=s++ [UInt8.ofInt kind]:=yc9 kind s hp
         rw [hIF] at h hIn hsl
         have hIni:((s++ [UInt8.ofInt kind]).length:Int)=(L:Int):=by omega
         repeat ((conv=>whnf);first|refine zr (by first|assumption|omega|(unfold ya;omega)|(simp only [szl,off,zsk]<;>omega)|exact pk (by kernel_rfl)|(constructor<;>first|assumption|omega)) ?_|refine zg ?_|refine zf ?_|refine zb ?_)
         conv=>whnf
         rw [hIni]
         refine zj (decide_eq_true hd1) ?_
         refine za ?_
         conv=>whnf
         exact zd [0] h
   ·exact h.elim
end Go.Sym.Z
