/-
  Contracts of functions of the program, each said of symbolic values, and plain laws; no condition beyond each statement's own.
-/
import Derived.Test.YtmmpgjcpielefaaGreatG24
import Derived.Test.YtmmpgjcpielefaaGreatG21
import Derived.Test.YtmmpgjcpielefaaGreatG22
import Derived.Test.YtmmpgjcpielefaaGreatG17
set_option linter.unusedSimpArgs false
set_option linter.unusedVariables false
namespace Go.Sym.Z
open Go Go.Proofs.Tryz Go.Sym.Lp Go.Sym.Cha Go.Sym.Sha Go.Sym.Hk
set_option maxRecDepth 100000
attribute [local irreducible] xx KC HB zbl wrH wrR zgq zdr bk
def z9j:List (Nat×List PStep):= [(6,[⟨0,[]⟩,⟨1,[]⟩,⟨2,[0,1]⟩,⟨3,[0,1]⟩,⟨4,[2,3]⟩,⟨5,[]⟩]),(15,[⟨0,[]⟩,⟨1,[]⟩,⟨2,[0,1]⟩,⟨3,[0,1]⟩,⟨4,[2,3]⟩,⟨5,[]⟩])]
def yaw:List (Nat×TyI):= [(3,ty3),(4,ty4),(5,ty5),(9,ty9),(48,zc6),(51,zcx),(113,zad),(99,x4),(248,zey),(207,zeu),(209,zgc)]
theorem zcp: ∀t i,yz yaw t=some i→yn prog t i:=(zb ty3_ok (zb zbu (zb zby (zb zbz (zb zaw (zb za2 (zb zaq (zb zbp (zb zri (zb zr3 (zb z21 zae)))))))))))
theorem zhv (key:List UInt8) (N i:Nat):(key++List.replicate (N-key.length) 0).getD i 0=key.getD i 0:=by
  rw [List.getD_eq_getElem?_getD,List.getD_eq_getElem?_getD]
  by_cases h:i<key.length
  ·rw [List.getElem?_append_left h]
  ·rw [List.getElem?_append_right (by omega),List.getElem?_eq_none (show key.length≤i by omega),List.getElem?_replicate]
   split<;>rfl
theorem zea {key:List UInt8} {N:Nat} (h:key.length≤N):zt (List.replicate N 0) (off []) (List.take (min key.length N) key)=key++List.replicate (N-key.length) 0:=by
  rw [List.take_of_length_le (show key.length≤min key.length N by omega)]
  unfold zt
  show List.take 0 _++key++List.drop (0+key.length) _=_
  rw [List.take_zero,List.nil_append,List.drop_replicate,Nat.zero_add]
def zyx:Spec:=fun args hp K=>match args,hp with
  | [.int n,.str key],[]=>Pre ((n=256∨n=384)∧key.length≤140737488351232) (K (.tup [.str (pdX (bk n) (kN n key) 54),.str (pdX (bk n) (kN n key) 92)]) [])
  |_,_=>False
set_option maxHeartbeats 4000000 in
theorem z7l:zp prog 171 zyx:=by
  refine zl zcp (ze zx6 zg) rfl func171 rfl call171 (D:=z9j) ?_ ?_
  ·intro args hp K h
   unfold zyx at h
   split at h
   ·exact Nat.le_of_ble_eq_true rfl
   ·exact h.elim
  ·intro args hp K h
   unfold zyx at h
   split at h
   ·rename_i n key
    obtain ⟨⟨hn,hk⟩,h⟩:=zi h
    have hn2:=hn
    rcases hn with hn|hn
    ·have hb:bk n=64:=by unfold bk;rw [if_pos hn]
     have hp4:(4:Int)≠0∧yo (n.tdiv 4):=by rw [hn];exact ⟨by decide,by unfold yo;decide⟩
     have hd4:n.tdiv 4=64:=by rw [hn];rfl
     have hps:(n=256∨n=384)∧key.length≤140737488351232:=⟨hn2,hk⟩
     by_cases hl:64<key.length
     ·have hX:kN n key=(zgq n key):=by unfold kN;rw [hb];exact if_pos hl
      rw [hX] at h
      have hXl:(zgq n key).length≤64:=by rw [zr5 hn2];unfold dl;split<;>omega
      obtain ⟨Y,hY⟩: ∃Y,Y=(zgq n key):=⟨_,rfl⟩
      rw [←hY] at h hXl
      obtain ⟨KP,hKP⟩: ∃KP,KP=Y++List.replicate (64-Y.length) 0:=⟨_,rfl⟩
      have hKl:KP.length=64:=by rw [hKP,List.length_append,List.length_replicate];omega
      have hKg: ∀i,KP.getD i 0=Y.getD i 0:=fun i=>by rw [hKP];exact zhv Y 64 i
      have hsp:=zea hXl
      rw [←hKP] at hsp
      refine za ?_
      rw [hd4]
      rw [←hY]
      rw [show zt (List.replicate (Int.toNat 64) 0) (off []) (List.take (min Y.length (Int.toNat 64)) Y)=KP from hsp]
      refine zx (Ix (64)) (fun q=>⟨[(7,.sl 0 0 0 [] 64 64),(8,.sl 1 0 0 [] 64 64),(34,.int 64),(35,.int q.i)],[.mk 5 [.arr8 64 (ovr KP 0 (fun i=>KP.getD i 0^^^54) q.i)],.mk 5 [.arr8 64 (ovr KP 0 (fun i=>KP.getD i 0^^^92) q.i)]]⟩) (fun q=>(64)-q.i) ⟨0,Nat.zero_le _⟩ [0,1] ?_ ?_
      ·exact zo
      ·intro q
       have hi:=q.hi
       have h1:=yp (l:=KP) (a:=0) (i:=q.i) (by omega) (fun i=>KP.getD i 0^^^54)
       have h2:=yp (l:=KP) (a:=0) (i:=q.i) (by omega) (fun i=>KP.getD i 0^^^92)
       have hI:((q.i:Int)).toNat=q.i:=Int.toNat_natCast _
       by_cases h4:q.i<64
       ·refine za ?_
        refine ⟨⟨q.i+1,h4⟩,[0,1],by show (64)-(q.i+1)<(64)-q.i;omega,?_⟩
        repeat ((conv=>whnf);refine zc ?_)
        conv=>whnf
        refine z9 (congrArg (fun x=>SV.agg [SV.arr8 64 x]) (yd (by omega) ?hv ?hkk)) ?_
        case hkk=>show ((q.i:Int)).toNat=0+q.i;omega
        case hv=>show (ovr KP 0 _ q.i).getD ((q.i:Int)).toNat 0^^^UInt8.ofNat 54=_;rw [hI,yx (by omega) _ (by omega)];rfl
        repeat ((conv=>whnf);refine zc ?_)
        conv=>whnf
        refine z9 (congrArg (fun x=>SV.agg [SV.arr8 64 x]) (yd (by omega) ?hv ?hkk)) ?_
        case hkk=>show ((q.i:Int)).toNat=0+q.i;omega
        case hv=>show (ovr KP 0 _ q.i).getD ((q.i:Int)).toNat 0^^^UInt8.ofNat 92=_;rw [hI,yx (by omega) _ (by omega)];rfl
        exact zo
       ·have e4:q.i=64:=by omega
        have hp: ∀b,ovr KP 0 (fun i=>KP.getD i 0^^^b) 64=pdX (bk n) Y b:=fun b=>by
          rw [xy hKl,hb];unfold pdX
          exact xd fun i _=>by rw [hKg]
        have hq: ∀b,List.take 64 (List.drop (off []) (pdX (bk n) Y b))=pdX (bk n) Y b:=fun b=>List.take_of_length_le (by show (pdX (bk n) Y b).length≤_;rw [zb2,hb];exact Nat.le_refl _)
        have hl3: ∀b,off []+64≤(pdX (bk n) Y b).length:=fun b=>by rw [zb2,hb];show 0+64≤64;exact Nat.le_of_eq (Nat.zero_add _)
        have hl54:=hl3 54
        have hl92:=hl3 92
        rw [e4,hp 54,hp 92]
        refine za ?_
        rw [hq 54,hq 92]
        conv=>whnf
        exact zm [] h
     ·have hX:kN n key=key:=by unfold kN;rw [hb];exact if_neg hl
      rw [hX] at h
      have hXl:key.length≤64:=by omega
      obtain ⟨Y,hY⟩: ∃Y,Y=key:=⟨_,rfl⟩
      rw [←hY] at h hXl
      obtain ⟨KP,hKP⟩: ∃KP,KP=Y++List.replicate (64-Y.length) 0:=⟨_,rfl⟩
      have hKl:KP.length=64:=by rw [hKP,List.length_append,List.length_replicate];omega
      have hKg: ∀i,KP.getD i 0=Y.getD i 0:=fun i=>by rw [hKP];exact zhv Y 64 i
      have hsp:=zea hXl
      rw [←hKP] at hsp
      refine za ?_
      rw [hd4]
      rw [←hY]
      rw [show zt (List.replicate (Int.toNat 64) 0) (off []) (List.take (min Y.length (Int.toNat 64)) Y)=KP from hsp]
      refine zx (Ix (64)) (fun q=>⟨[(7,.sl 0 0 0 [] 64 64),(8,.sl 1 0 0 [] 64 64),(34,.int 64),(35,.int q.i)],[.mk 5 [.arr8 64 (ovr KP 0 (fun i=>KP.getD i 0^^^54) q.i)],.mk 5 [.arr8 64 (ovr KP 0 (fun i=>KP.getD i 0^^^92) q.i)]]⟩) (fun q=>(64)-q.i) ⟨0,Nat.zero_le _⟩ [0,1] ?_ ?_
      ·exact zo
      ·intro q
       have hi:=q.hi
       have h1:=yp (l:=KP) (a:=0) (i:=q.i) (by omega) (fun i=>KP.getD i 0^^^54)
       have h2:=yp (l:=KP) (a:=0) (i:=q.i) (by omega) (fun i=>KP.getD i 0^^^92)
       have hI:((q.i:Int)).toNat=q.i:=Int.toNat_natCast _
       by_cases h4:q.i<64
       ·refine za ?_
        refine ⟨⟨q.i+1,h4⟩,[0,1],by show (64)-(q.i+1)<(64)-q.i;omega,?_⟩
        repeat ((conv=>whnf);refine zc ?_)
        conv=>whnf
        refine z9 (congrArg (fun x=>SV.agg [SV.arr8 64 x]) (yd (by omega) ?hv ?hkk)) ?_
        case hkk=>show ((q.i:Int)).toNat=0+q.i;omega
        case hv=>show (ovr KP 0 _ q.i).getD ((q.i:Int)).toNat 0^^^UInt8.ofNat 54=_;rw [hI,yx (by omega) _ (by omega)];rfl
        repeat ((conv=>whnf);refine zc ?_)
        conv=>whnf
        refine z9 (congrArg (fun x=>SV.agg [SV.arr8 64 x]) (yd (by omega) ?hv ?hkk)) ?_
        case hkk=>show ((q.i:Int)).toNat=0+q.i;omega
        case hv=>show (ovr KP 0 _ q.i).getD ((q.i:Int)).toNat 0^^^UInt8.ofNat 92=_;rw [hI,yx (by omega) _ (by omega)];rfl
        exact zo
       ·have e4:q.i=64:=by omega
        have hp: ∀b,ovr KP 0 (fun i=>KP.getD i 0^^^b) 64=pdX (bk n) Y b:=fun b=>by
          rw [xy hKl,hb];unfold pdX
          exact xd fun i _=>by rw [hKg]
        have hq: ∀b,List.take 64 (List.drop (off []) (pdX (bk n) Y b))=pdX (bk n) Y b:=fun b=>List.take_of_length_le (by show (pdX (bk n) Y b).length≤_;rw [zb2,hb];exact Nat.le_refl _)
        have hl3: ∀b,off []+64≤(pdX (bk n) Y b).length:=fun b=>by rw [zb2,hb];show 0+64≤64;exact Nat.le_of_eq (Nat.zero_add _)
        have hl54:=hl3 54
        have hl92:=hl3 92
        rw [e4,hp 54,hp 92]
        refine za ?_
        rw [hq 54,hq 92]
        conv=>whnf
        exact zm [] h
    ·have hb:bk n=128:=by unfold bk;rw [if_neg (by omega)]
     have hp4:(4:Int)≠0∧yo (n.tdiv 4):=by rw [hn];exact ⟨by decide,by unfold yo;decide⟩
     have hd4:n.tdiv 4=96:=by rw [hn];rfl
     have hps:(n=256∨n=384)∧key.length≤140737488351232:=⟨hn2,hk⟩
     by_cases hl:128<key.length
     ·have hX:kN n key=(zgq n key):=by unfold kN;rw [hb];exact if_pos hl
      rw [hX] at h
      have hXl:(zgq n key).length≤128:=by rw [zr5 hn2];unfold dl;split<;>omega
      obtain ⟨Y,hY⟩: ∃Y,Y=(zgq n key):=⟨_,rfl⟩
      rw [←hY] at h hXl
      obtain ⟨KP,hKP⟩: ∃KP,KP=Y++List.replicate (128-Y.length) 0:=⟨_,rfl⟩
      have hKl:KP.length=128:=by rw [hKP,List.length_append,List.length_replicate];omega
      have hKg: ∀i,KP.getD i 0=Y.getD i 0:=fun i=>by rw [hKP];exact zhv Y 128 i
      have hsp:=zea hXl
      rw [←hKP] at hsp
      refine za ?_
      skip
      rw [←hY]
      rw [show zt (List.replicate (Int.toNat 128) 0) (off []) (List.take (min Y.length (Int.toNat 128)) Y)=KP from hsp]
      refine zx (Ix (128)) (fun q=>⟨[(7,.sl 0 0 0 [] 128 128),(8,.sl 1 0 0 [] 128 128),(34,.int 128),(35,.int q.i)],[.mk 5 [.arr8 128 (ovr KP 0 (fun i=>KP.getD i 0^^^54) q.i)],.mk 5 [.arr8 128 (ovr KP 0 (fun i=>KP.getD i 0^^^92) q.i)]]⟩) (fun q=>(128)-q.i) ⟨0,Nat.zero_le _⟩ [0,1] ?_ ?_
      ·exact zo
      ·intro q
       have hi:=q.hi
       have h1:=yp (l:=KP) (a:=0) (i:=q.i) (by omega) (fun i=>KP.getD i 0^^^54)
       have h2:=yp (l:=KP) (a:=0) (i:=q.i) (by omega) (fun i=>KP.getD i 0^^^92)
       have hI:((q.i:Int)).toNat=q.i:=Int.toNat_natCast _
       by_cases h4:q.i<128
       ·refine za ?_
        refine ⟨⟨q.i+1,h4⟩,[0,1],by show (128)-(q.i+1)<(128)-q.i;omega,?_⟩
        repeat ((conv=>whnf);refine zc ?_)
        conv=>whnf
        refine z9 (congrArg (fun x=>SV.agg [SV.arr8 128 x]) (yd (by omega) ?hv ?hkk)) ?_
        case hkk=>show ((q.i:Int)).toNat=0+q.i;omega
        case hv=>show (ovr KP 0 _ q.i).getD ((q.i:Int)).toNat 0^^^UInt8.ofNat 54=_;rw [hI,yx (by omega) _ (by omega)];rfl
        repeat ((conv=>whnf);refine zc ?_)
        conv=>whnf
        refine z9 (congrArg (fun x=>SV.agg [SV.arr8 128 x]) (yd (by omega) ?hv ?hkk)) ?_
        case hkk=>show ((q.i:Int)).toNat=0+q.i;omega
        case hv=>show (ovr KP 0 _ q.i).getD ((q.i:Int)).toNat 0^^^UInt8.ofNat 92=_;rw [hI,yx (by omega) _ (by omega)];rfl
        exact zo
       ·have e4:q.i=128:=by omega
        have hp: ∀b,ovr KP 0 (fun i=>KP.getD i 0^^^b) 128=pdX (bk n) Y b:=fun b=>by
          rw [xy hKl,hb];unfold pdX
          exact xd fun i _=>by rw [hKg]
        have hq: ∀b,List.take 128 (List.drop (off []) (pdX (bk n) Y b))=pdX (bk n) Y b:=fun b=>List.take_of_length_le (by show (pdX (bk n) Y b).length≤_;rw [zb2,hb];exact Nat.le_refl _)
        have hl3: ∀b,off []+128≤(pdX (bk n) Y b).length:=fun b=>by rw [zb2,hb];show 0+128≤128;exact Nat.le_of_eq (Nat.zero_add _)
        have hl54:=hl3 54
        have hl92:=hl3 92
        rw [e4,hp 54,hp 92]
        refine za ?_
        rw [hq 54,hq 92]
        conv=>whnf
        exact zm [] h
     ·have hX:kN n key=key:=by unfold kN;rw [hb];exact if_neg hl
      rw [hX] at h
      have hXl:key.length≤128:=by omega
      obtain ⟨Y,hY⟩: ∃Y,Y=key:=⟨_,rfl⟩
      rw [←hY] at h hXl
      obtain ⟨KP,hKP⟩: ∃KP,KP=Y++List.replicate (128-Y.length) 0:=⟨_,rfl⟩
      have hKl:KP.length=128:=by rw [hKP,List.length_append,List.length_replicate];omega
      have hKg: ∀i,KP.getD i 0=Y.getD i 0:=fun i=>by rw [hKP];exact zhv Y 128 i
      have hsp:=zea hXl
      rw [←hKP] at hsp
      refine za ?_
      skip
      rw [←hY]
      rw [show zt (List.replicate (Int.toNat 128) 0) (off []) (List.take (min Y.length (Int.toNat 128)) Y)=KP from hsp]
      refine zx (Ix (128)) (fun q=>⟨[(7,.sl 0 0 0 [] 128 128),(8,.sl 1 0 0 [] 128 128),(34,.int 128),(35,.int q.i)],[.mk 5 [.arr8 128 (ovr KP 0 (fun i=>KP.getD i 0^^^54) q.i)],.mk 5 [.arr8 128 (ovr KP 0 (fun i=>KP.getD i 0^^^92) q.i)]]⟩) (fun q=>(128)-q.i) ⟨0,Nat.zero_le _⟩ [0,1] ?_ ?_
      ·exact zo
      ·intro q
       have hi:=q.hi
       have h1:=yp (l:=KP) (a:=0) (i:=q.i) (by omega) (fun i=>KP.getD i 0^^^54)
       have h2:=yp (l:=KP) (a:=0) (i:=q.i) (by omega) (fun i=>KP.getD i 0^^^92)
       have hI:((q.i:Int)).toNat=q.i:=Int.toNat_natCast _
       by_cases h4:q.i<128
       ·refine za ?_
        refine ⟨⟨q.i+1,h4⟩,[0,1],by show (128)-(q.i+1)<(128)-q.i;omega,?_⟩
        repeat ((conv=>whnf);refine zc ?_)
        conv=>whnf
        refine z9 (congrArg (fun x=>SV.agg [SV.arr8 128 x]) (yd (by omega) ?hv ?hkk)) ?_
        case hkk=>show ((q.i:Int)).toNat=0+q.i;omega
        case hv=>show (ovr KP 0 _ q.i).getD ((q.i:Int)).toNat 0^^^UInt8.ofNat 54=_;rw [hI,yx (by omega) _ (by omega)];rfl
        repeat ((conv=>whnf);refine zc ?_)
        conv=>whnf
        refine z9 (congrArg (fun x=>SV.agg [SV.arr8 128 x]) (yd (by omega) ?hv ?hkk)) ?_
        case hkk=>show ((q.i:Int)).toNat=0+q.i;omega
        case hv=>show (ovr KP 0 _ q.i).getD ((q.i:Int)).toNat 0^^^UInt8.ofNat 92=_;rw [hI,yx (by omega) _ (by omega)];rfl
        exact zo
       ·have e4:q.i=128:=by omega
        have hp: ∀b,ovr KP 0 (fun i=>KP.getD i 0^^^b) 128=pdX (bk n) Y b:=fun b=>by
          rw [xy hKl,hb];unfold pdX
          exact xd fun i _=>by rw [hKg]
        have hq: ∀b,List.take 128 (List.drop (off []) (pdX (bk n) Y b))=pdX (bk n) Y b:=fun b=>List.take_of_length_le (by show (pdX (bk n) Y b).length≤_;rw [zb2,hb];exact Nat.le_refl _)
        have hl3: ∀b,off []+128≤(pdX (bk n) Y b).length:=fun b=>by rw [zb2,hb];show 0+128≤128;exact Nat.le_of_eq (Nat.zero_add _)
        have hl54:=hl3 54
        have hl92:=hl3 92
        rw [e4,hp 54,hp 92]
        refine za ?_
        rw [hq 54,hq 92]
        conv=>whnf
        exact zm [] h
   ·exact h.elim
end Go.Sym.Z

namespace Go.Sym.Z
open Go Go.Proofs.Tryz Go.Sym.Lp Go.Sym.Cha Go.Sym.Sha Go.Sym.Hk
set_option maxRecDepth 100000
attribute [local irreducible] xx KC HB zbl wrH wrR zgq zdr bk kN pdX
def z9m:List (Nat×List PStep):= []
def yaf:List (Nat×List PStep):= [(1,[⟨0,[]⟩,⟨1,[]⟩,⟨3,[0,1]⟩,⟨4,[0,1]⟩,⟨2,[3,4]⟩,⟨5,[]⟩,⟨6,[]⟩,⟨7,[]⟩])]
theorem zq9 {n:Int} {x:List UInt8} (h:x.length=bk n):(wrR n [] x).length=0:=by
  rw [zhz,h,List.length_nil,Nat.zero_add,Nat.mod_self]
def zqb:Spec:=fun args hp K=>match args,hp with
  | [.int n,.str key],[]=>Pre (key.length≤140737488351232)
      (yg (decide (n=256∨n=384))
        (K (.tup [.agg [.ptr 0 0 0 [],.ptr 1 0 0 []],.int 0]) [.mk 248 [.int n,.arr64 8 (mP n key 54),.arr64 80 KC,.nilsl,.u64 (UInt64.ofNat (bk n))],.mk 248 [.int n,.arr64 8 (mP n key 92),.arr64 80 KC,.nilsl,.u64 (UInt64.ofNat (bk n))]])
        (K (.tup [.agg [.nilptr,.nilptr],.int 300]) []))
  |_,_=>False
theorem z1g:zp prog 156 zqb:=by
  refine zl zcp (ze zyh (ze z7l (ze ziq zg))) rfl func156 rfl call156 (D:=z9m) ?_ ?_
  ·intro args hp K h
   unfold zqb at h
   split at h
   ·exact Nat.le_of_ble_eq_true rfl
   ·exact h.elim
  ·intro args hp K h
   unfold zqb at h
   split at h
   ·rename_i n key
    obtain ⟨hk,h⟩:=zi h
    obtain ⟨ht,hf⟩:=yc h
    by_cases hn:n=256∨n=384
    ·have h:=ht (decide_eq_true hn)
     have hd:=decide_eq_true hn
     have hkc:=zpd
     have hl:=zoz n
     have hp:=And.intro hn hk
     have hbk:bk n≤128:=by unfold bk;split<;>omega
     have hx1:=zb2 (bk n) (kN n key) 54
     have hx2:=zb2 (bk n) (kN n key) 92
     have hz1:=zq9 hx1
     have hz2:=zq9 hx2
     have ha:(0:UInt64)+UInt64.ofNat (bk n)=UInt64.ofNat (bk n):=UInt64.zero_add _
     repeat ((conv=>whnf);first|refine zy ?_|refine zk ?_|refine zj ?_|refine zc ?_|refine zv (by first|exact hd) ?_|refine zr (by first|exact hd) ?_|refine zq (by first|exact hd) ?_)
     conv=>whnf
     rw [hx1,hx2,ha]
     conv=>whnf
     exact zm [1,2] h
    ·have h:=hf (decide_eq_false hn)
     have hd:=decide_eq_false hn
     repeat ((conv=>whnf);first|refine zy ?_|refine zk ?_|refine zj ?_|refine zc ?_|refine zv (by first|exact hd) ?_|refine zr (by first|exact hd) ?_|refine zq (by first|exact hd) ?_)
     conv=>whnf
     exact zm [] h
   ·exact h.elim
def ztw:Spec:=fun args hp K=>match args,hp with
  | [.agg [.ptr 0 0 0 [],.ptr 1 0 0 []],.str s],[.mk t0 [.int n,.arr64 8 H1,.arr64 80 k1,.nilsl,.u64 a1],.mk t1 [.int n2,.arr64 8 H2,.arr64 80 k2,.nilsl,.u64 a2]]=>
      Pre ((n=256∨n=384)∧n2=n∧t0=248∧t1=248∧k1=KC∧k2=KC∧a1=UInt64.ofNat (bk n)∧a2=UInt64.ofNat (bk n)∧H1.length=8∧H2.length=8∧s.length≤1073741824)
      (K (.str (dgF n H2 (dgF n H1 s))) [.mk t0 [.int n,.arr64 8 H1,.arr64 80 k1,.nilsl,.u64 a1],.mk t1 [.int n2,.arr64 8 H2,.arr64 80 k2,.nilsl,.u64 a2]])
  |_,_=>False
theorem z3m:zp prog 157 ztw:=by
  refine zl zcp (ze zvv (ze ziq (ze zvg zg))) rfl func157 rfl call157 (D:=yaf) ?_ ?_
  ·intro args hp K h
   unfold ztw at h
   split at h
   ·exact Nat.le_of_ble_eq_true rfl
   ·exact h.elim
  ·intro args hp K h
   unfold ztw at h
   split at h
   ·rename_i s t0 n H1 k1 a1 t1 n2 H2 k2 a2
    obtain ⟨⟨hn,e2,e3,e4,e5,e6,e7,e8,hl1,hl2,hs⟩,h'⟩:=zi h
    clear h
    subst e2 e3 e4 e5 e6 e7 e8
    have hkc:=zpd
    have hpf1:H1.length=8∧KC.length=80∧248=248:=⟨hl1,hkc,rfl⟩
    have hpf2:H2.length=8∧KC.length=80∧248=248:=⟨hl2,hkc,rfl⟩
    have hw1:=za1 (n:=n2) (k:=KC) hl1 [] s
    have hr1:=zqk n2 [] s
    by_cases hz:(wrR n2 [] s).length=0
    ·skip
     have hz0:wrR n2 [] s= []:=List.length_eq_zero_iff.1 hz
     have hps:(wrH n2 KC H1 [] s).length=8∧KC.length=80∧248=248∧(n2=256∨n2=384):=⟨hw1,hkc,rfl,hn⟩
     obtain ⟨D,hD⟩: ∃D,D=(zdr n2 KC (wrH n2 KC H1 [] s) [] (UInt64.ofNat (bk n2)+UInt64.ofNat s.length)):=⟨_,rfl⟩
     have hDl:D.length=dl n2:=by rw [hD];exact zid hn _ _ _ _
     have hDe:dgF n2 H1 s=D:=by unfold dgF;rw [hz0,←hD]
     have hdl:dl n2≤48:=by unfold dl;split<;>decide
     have hw2:=za1 (n:=n2) (k:=KC) hl2 [] D
     have hr2:=zqk n2 [] D
     have hnz: ¬(wrR n2 [] D).length=0:=by
       rw [zhz,List.length_nil,Nat.zero_add,hDl]
       unfold dl bk
       rcases hn with rfl|rfl<;>decide
     rw [hDe] at h'
     refine za ?_
     rw [←hD]
     refine za ?_
     refine yf fun t2=>?_
     have htk2:List.take (wrR n2 [] D).length (wrR n2 [] D++t2)=wrR n2 [] D:=List.take_left' rfl
     have hps2:(wrH n2 KC H2 [] D).length=8∧KC.length=80∧248=248∧(n2=256∨n2=384)∧0<(wrR n2 [] D).length∧(wrR n2 [] D).length<bk n2∧(wrR n2 [] D).length≤(wrR n2 [] D).length+t2.length∧(wrR n2 [] D).length≤(wrR n2 [] D++t2).length:=⟨hw2,hkc,rfl,hn,by omega,hr2,by omega,by rw [List.length_append];omega⟩
     refine za ?_
     rw [htk2]
     conv=>whnf
     exact zm [0,1] h'
    ·skip
     obtain ⟨D,hD⟩: ∃D,D=(zdr n2 KC (wrH n2 KC H1 [] s) (wrR n2 [] s) (UInt64.ofNat (bk n2)+UInt64.ofNat s.length)):=⟨_,rfl⟩
     have hDl:D.length=dl n2:=by rw [hD];exact zid hn _ _ _ _
     have hDe:dgF n2 H1 s=D:=by unfold dgF;rw [←hD]
     have hdl:dl n2≤48:=by unfold dl;split<;>decide
     have hw2:=za1 (n:=n2) (k:=KC) hl2 [] D
     have hr2:=zqk n2 [] D
     have hnz: ¬(wrR n2 [] D).length=0:=by
       rw [zhz,List.length_nil,Nat.zero_add,hDl]
       unfold dl bk
       rcases hn with rfl|rfl<;>decide
     rw [hDe] at h'
     refine za ?_
     refine yf fun t1=>?_
     have htk:List.take (wrR n2 [] s).length (wrR n2 [] s++t1)=wrR n2 [] s:=List.take_left' rfl
     have hps:(wrH n2 KC H1 [] s).length=8∧KC.length=80∧248=248∧(n2=256∨n2=384)∧0<(wrR n2 [] s).length∧(wrR n2 [] s).length<bk n2∧(wrR n2 [] s).length≤(wrR n2 [] s).length+t1.length∧(wrR n2 [] s).length≤(wrR n2 [] s++t1).length:=⟨hw1,hkc,rfl,hn,by omega,hr1,by omega,by rw [List.length_append];omega⟩
     refine za ?_
     rw [htk,←hD]
     refine za ?_
     refine yf fun t2=>?_
     have htk2:List.take (wrR n2 [] D).length (wrR n2 [] D++t2)=wrR n2 [] D:=List.take_left' rfl
     have hps2:(wrH n2 KC H2 [] D).length=8∧KC.length=80∧248=248∧(n2=256∨n2=384)∧0<(wrR n2 [] D).length∧(wrR n2 [] D).length<bk n2∧(wrR n2 [] D).length≤(wrR n2 [] D).length+t2.length∧(wrR n2 [] D).length≤(wrR n2 [] D++t2).length:=⟨hw2,hkc,rfl,hn,by omega,hr2,by omega,by rw [List.length_append];omega⟩
     refine za ?_
     rw [htk2]
     conv=>whnf
     exact zm [0,1] h'
   ·exact h.elim
end Go.Sym.Z

namespace Go.Sym.Z
open Go Go.Proofs.Tryz Go.Sym.Lp Go.Sym.Cha
set_option maxRecDepth 100000
attribute [local irreducible] blk beg zxj
def z84:List (Nat×List PStep):= []
def z8z:List (Nat×List PStep):= []
def z8u:List (Nat×List PStep):= [(8,[⟨0,[]⟩,⟨1,[0]⟩,⟨2,[]⟩,⟨3,[]⟩,⟨4,[0,1,2,3]⟩,⟨5,[0,1,2,3]⟩,⟨6,[0,1,2,3]⟩,⟨7,[]⟩,⟨8,[]⟩,⟨9,[]⟩])]
def zpt:Spec:=fun args hp K=>match args,hp with
  | [.str key,.int c,.str nonce],[]=>K (.bool (decide (key.length=32∧(0≤c∧c≤4294967295)∧nonce.length=12))) []
  |_,_=>False
theorem zyo:zp prog 162 zpt:=by
  refine zl zb8 zg rfl func162 rfl call162 (D:=z84) ?_ ?_
  ·intro args hp K h
   unfold zpt at h
   split at h
   ·exact Nat.le_of_ble_eq_true rfl
   ·exact h.elim
  ·intro args hp K h
   unfold zpt at h
   split at h
   ·rename_i key c nonce
    by_cases h1:key.length=32
    ·by_cases h2:0≤c
     ·by_cases h3:c≤4294967295
      ·by_cases h4:nonce.length=12
       ·rw [decide_eq_true ⟨h1,⟨h2,h3⟩,h4⟩] at h
        have d4:decide ((nonce.length:Int)=12)=true:=decide_eq_true (by omega)
        refine za ?_
        rw [d4]
        conv=>whnf
        exact zm [] h
       ·rw [decide_eq_false fun hh=>h4 hh.2.2] at h
        have d4:decide ((nonce.length:Int)=12)=false:=decide_eq_false (by omega)
        refine za ?_
        rw [d4]
        conv=>whnf
        exact zm [] h
      ·rw [decide_eq_false fun hh=>h3 hh.2.1.2] at h
       refine za ?_
       exact zm [] h
     ·rw [decide_eq_false fun hh=>h2 hh.2.1.1] at h
      refine za ?_
      exact zm [] h
    ·rw [decide_eq_false fun hh=>h1 hh.1] at h
     refine za ?_
     exact zm [] h
   ·exact h.elim
def zjf:Spec:=fun args hp K=>match args,hp with
  | [.str key,.int c,.str nonce],[]=>Pre (key.length=32∧(0≤c∧c≤4294967295)∧nonce.length=12) (K (.tup [.str (blk key nonce (UInt32.ofInt c)),.int 0]) [])
  |_,_=>False
theorem zsx:zp prog 140 zjf:=by
  refine zl zb8 (ze zyo (ze zvf (ze zv0 zg))) rfl func140 rfl call140 (D:=z8z) ?_ ?_
  ·intro args hp K h
   unfold zjf at h
   split at h
   ·exact Nat.le_of_ble_eq_true rfl
   ·exact h.elim
  ·intro args hp K h
   unfold zjf at h
   split at h
   ·rename_i key c nonce
    obtain ⟨hp0,h⟩:=zi h
    have hd:=decide_eq_true hp0
    have hl:=zp2 key nonce (UInt32.ofInt c)
    have hk:key.length=32∧nonce.length=12:=⟨hp0.1,hp0.2.2⟩
    have hb:=zkn key nonce (UInt32.ofInt c)
    have e:List.take 64 (List.drop (off []) (zxj (beg key nonce (UInt32.ofInt c))))=blk key nonce (UInt32.ofInt c):=by
      unfold blk;exact List.take_of_length_le (Nat.le_of_eq (zmg _))
    have hb2:=zmg (beg key nonce (UInt32.ofInt c))
    repeat ((conv=>whnf);first|refine zy ?_|refine zk ?_|refine zj ?_|refine zc ?_|refine zv (by first|exact hd|(rw [hd];rfl)) ?_|refine zr (by first|exact hd|(rw [hd];rfl)) ?_|refine zq (by first|exact hd|(rw [hd];rfl)) ?_)
    conv=>whnf
    rw [e]
    conv=>whnf
    exact zm [] h
   ·exact h.elim
structure Xs (n:Nat) where
  t:Nat
  x:Nat
  k:Nat
  c:Nat
  hn:k+64*t=n∨(k=0∧n≤64*t)
  hx:0<k→x=64*t
  hc:k≤c
def zsu:Spec:=fun args hp K=>match args,hp with
  | [.str key,.int c,.str nonce,.sl 0 0 0 [] n cap],[.mk t [.arr8 m l]]=>Pre (key.length=32∧nonce.length=12∧n≤l.length∧n≤cap∧n≤9223372036854775807)
      (K (.tup []) [.mk t [.arr8 m (xl key nonce (UInt32.ofInt c) (l.take n)++l.drop n)]])
  |_,_=>False
theorem z35:zp prog 116 zsu:=by
  refine zl zb8 (ze zvf (ze zv0 zg)) rfl func116 rfl call116 (D:=z8u) ?_ ?_
  ·intro args hp K h
   unfold zsu at h
   split at h
   ·exact Nat.le_of_ble_eq_true rfl
   ·exact h.elim
  ·intro args hp K h
   unfold zsu at h
   split at h
   ·rename_i key c nonce n cap t m l
    obtain ⟨⟨hk,hn,hl,hcap,hmax⟩,h⟩:=zi h
    rw [←zyr hl] at h
    have hkn:key.length=32∧nonce.length=12:=⟨hk,hn⟩
    refine za ?_
    refine zx (Option (Xs n)) (fun q=>match q with
      |none=>⟨[(0,.str key),(1,.int c),(2,.str nonce),(3,.sl 0 0 0 [] n cap),(8,.u32 (UInt32.ofInt c))],[.mk t [.arr8 m l]]⟩
      |some s=>⟨[(0,.str key),(1,.int c),(2,.str nonce),(3,.sl 0 0 0 [(s.x,1)] s.k s.c),(8,.u32 (UInt32.ofInt c+UInt32.ofNat s.t))],[.mk t [.arr8 m (zjq key nonce (UInt32.ofInt c) l (n-s.k))]]⟩)
      (fun q=>match q with|none=>n+1|some s=>s.k) none [0] ?_ ?_
    ·exact zo
    ·intro q
     cases q with
     |none=>
      by_cases h4:0<n
      ·have hD:64*0=0:=rfl
       have hct:UInt32.ofInt c+UInt32.ofNat 0=UInt32.ofInt c:=UInt32.add_zero _
       have hbg:=zp2 key nonce (UInt32.ofInt c)
       have hmn:(min (n:Int) 64).toNat=min n 64:=by omega
       refine za ?_
       refine zx (Ix ((min n 64))) (fun r=>⟨[(0,.str key),(1,.int c),(2,.str nonce),(3,.sl 0 0 0 [] n cap),(8,.u32 (UInt32.ofInt c)),(9,.ptr 1 0 0 []),(10,.int (min (n:Int) 64)),(27,.int (min (n:Int) 64)),(28,.int r.i)],[.mk t [.arr8 m (zjq key nonce (UInt32.ofInt c) l (0+r.i))],.mk 187 [.arr8 64 (blk key nonce (UInt32.ofInt c))]]⟩) (fun r=>((min n 64))-r.i) ⟨0,Nat.zero_le _⟩ [0,1] ?_ ?_
       ·repeat ((conv=>whnf);refine zc ?_)
        conv=>whnf
        exact zu (congrArg (fun x=>SV.agg [SV.arr8 64 x]) (by unfold blk;rfl))
       ·intro r
        have hri:=r.hi
        have hlr:(zjq key nonce (UInt32.ofInt c) l (0+r.i)).length=l.length:=yp (l:=l) (a:=0) (i:=0+r.i) (by omega) (zg6 key nonce (UInt32.ofInt c) l)
        have hbl:=zkn key nonce (UInt32.ofInt c)
        have hR:((r.i:Int)).toNat=r.i:=Int.toNat_natCast _
        by_cases h5:r.i<min n 64
        ·refine za ?_
         refine ⟨⟨r.i+1,h5⟩,[0,1],by show ((min n 64))-(r.i+1)<((min n 64))-r.i;omega,?_⟩
         repeat ((conv=>whnf);refine zc ?_)
         conv=>whnf
         refine z9 (congrArg (fun x=>SV.agg [SV.arr8 m x]) (yd (by omega) ?hv ?hkk)) ?_
         case hkk=>show r.i=0+(0+r.i);omega
         case hv=>
           show List.getD (ovr l 0 (zg6 key nonce (UInt32.ofInt c) l) (0+r.i)) (r.i) 0^^^List.getD (blk key nonce (UInt32.ofInt c)) r.i 0=_
           rw [yx (by omega) _ (by omega)]
           unfold zg6
           rw [show (0+r.i)/ 64=0 by omega,show (0+r.i)%64=r.i by omega,hct,Nat.zero_add]
         exact zo
        ·have e5:r.i=min n 64:=by omega
         rw [e5]
         refine za ?_
         rw [hmn]
         refine ⟨some ⟨0+1,slO cap (min n 64),n-min n 64,cap-min n 64,by omega,fun h0=>by
           have hne:cap≠min n 64:=by omega
           rw [yv hne];omega,by omega⟩,[0],by show n-min n 64<n+1;omega,?_⟩
         repeat ((conv=>whnf);refine zc ?_)
         conv=>whnf
         exact zu (congrArg (fun k=>SV.agg [SV.arr8 m (zjq key nonce (UInt32.ofInt c) l k)]) (by show 0+min n 64=n-(n-min n 64);omega))
      ·have e4:n=0:=by omega
       refine za ?_
       refine yu (hp':= [.mk t [.arr8 m (zjq key nonce (UInt32.ofInt c) l n)]]) [0] h ?_
       repeat ((conv=>whnf);refine zc ?_)
       conv=>whnf
       exact zu (congrArg (fun x=>SV.agg [SV.arr8 m x]) (by rw [e4];unfold zjq;exact (zb9 _ _ _).symm))
     |some s=>
      have hsn:=s.hn
      have hsx:=s.hx
      have hsc:=s.hc
      have hls:=yp (l:=l) (a:=0) (i:=n-s.k) (by omega) (zg6 key nonce (UInt32.ofInt c) l)
      by_cases h4:0<s.k
      ·have hX:=hsx h4
       have hD:n-s.k=64*s.t:=by omega
       have hbg:=zp2 key nonce (UInt32.ofInt c+UInt32.ofNat s.t)
       have hmn:(min (s.k:Int) 64).toNat=min s.k 64:=by omega
       refine za ?_
       refine zx (Ix ((min s.k 64))) (fun r=>⟨[(0,.str key),(1,.int c),(2,.str nonce),(3,.sl 0 0 0 [(s.x,1)] s.k s.c),(8,.u32 (UInt32.ofInt c+UInt32.ofNat s.t)),(9,.ptr 1 0 0 []),(10,.int (min (s.k:Int) 64)),(27,.int (min (s.k:Int) 64)),(28,.int r.i)],[.mk t [.arr8 m (zjq key nonce (UInt32.ofInt c) l ((n-s.k)+r.i))],.mk 187 [.arr8 64 (blk key nonce (UInt32.ofInt c+UInt32.ofNat s.t))]]⟩) (fun r=>((min s.k 64))-r.i) ⟨0,Nat.zero_le _⟩ [0,1] ?_ ?_
       ·repeat ((conv=>whnf);refine zc ?_)
        conv=>whnf
        exact zu (congrArg (fun x=>SV.agg [SV.arr8 64 x]) (by unfold blk;rfl))
       ·intro r
        have hri:=r.hi
        have hlr:(zjq key nonce (UInt32.ofInt c) l ((n-s.k)+r.i)).length=l.length:=yp (l:=l) (a:=0) (i:=(n-s.k)+r.i) (by omega) (zg6 key nonce (UInt32.ofInt c) l)
        have hbl:=zkn key nonce (UInt32.ofInt c+UInt32.ofNat s.t)
        have hR:((r.i:Int)).toNat=r.i:=Int.toNat_natCast _
        by_cases h5:r.i<min s.k 64
        ·refine za ?_
         refine ⟨⟨r.i+1,h5⟩,[0,1],by show ((min s.k 64))-(r.i+1)<((min s.k 64))-r.i;omega,?_⟩
         repeat ((conv=>whnf);refine zc ?_)
         conv=>whnf
         refine z9 (congrArg (fun x=>SV.agg [SV.arr8 m x]) (yd (by omega) ?hv ?hkk)) ?_
         case hkk=>show s.x+r.i=0+((n-s.k)+r.i);omega
         case hv=>
           show List.getD (ovr l 0 (zg6 key nonce (UInt32.ofInt c) l) ((n-s.k)+r.i)) (s.x+r.i) 0^^^List.getD (blk key nonce (UInt32.ofInt c+UInt32.ofNat s.t)) r.i 0=_
           rw [yx (by omega) _ (by omega)]
           unfold zg6
           rw [show ((n-s.k)+r.i)/ 64=s.t by omega,show ((n-s.k)+r.i)%64=r.i by omega,show s.x+r.i=n-s.k+r.i by omega]
         exact zo
        ·have e5:r.i=min s.k 64:=by omega
         rw [e5]
         refine za ?_
         rw [hmn]
         refine ⟨some ⟨s.t+1,s.x+slO s.c (min s.k 64),s.k-min s.k 64,s.c-min s.k 64,by omega,fun h0=>by
           have hne:s.c≠min s.k 64:=by omega
           rw [yv hne];omega,by omega⟩,[0],by show s.k-min s.k 64<s.k;omega,?_⟩
         repeat ((conv=>whnf);refine zc ?_)
         conv=>whnf
         refine z9 (congrArg (fun k=>SV.agg [SV.arr8 m (zjq key nonce (UInt32.ofInt c) l k)]) (by show (n-s.k)+min s.k 64=n-(s.k-min s.k 64);omega)) ?_
         repeat ((conv=>whnf);refine zc ?_)
         conv=>whnf
         exact zu (congrArg SV.u32 (by show (UInt32.ofInt c+UInt32.ofNat s.t)+UInt32.ofNat 1=UInt32.ofInt c+UInt32.ofNat (s.t+1);exact u32_add _ _))
      ·have e4:s.k=0:=by omega
       refine za ?_
       refine yu (hp':= [.mk t [.arr8 m (zjq key nonce (UInt32.ofInt c) l n)]]) [0] h ?_
       repeat ((conv=>whnf);refine zc ?_)
       conv=>whnf
       exact zu (congrArg (fun k=>SV.agg [SV.arr8 m (zjq key nonce (UInt32.ofInt c) l k)]) (by show n-s.k=n;omega))
   ·exact h.elim
end Go.Sym.Z

namespace Go.Sym.Pol
open Go.Sym.Lp
theorem yac {x:List UInt64} (h:x.length=5): ∃a b c d e,x= [a,b,c,d,e]:=by
  match x,h with
  | [a,b,c,d,e],_=>exact ⟨a,b,c,d,e,rfl⟩
def M26:UInt64:=67108863
def g64 (x:List UInt64) (i:Nat):UInt64:=x.getD i 0
def zau (x:List UInt64):Nat→List UInt64
  |0=>x
  |i+1=>
   let y:=zau x i
   let c:=g64 y (i%5)>>>(26:UInt64)
   let z:=y.set (i%5) (g64 y (i%5)&&&M26)
   if i%5=4 then z.set 0 (g64 z 0+5*c) else z.set (i%5+1) (g64 z (i%5+1)+c)
theorem zjs (x:List UInt64): ∀i,(zau x i).length=x.length
  |0=>rfl
  |i+1=>by
   simp only [zau]
   split<;>simp [zjs x i]
def car (x:List UInt64):List UInt64:=zau x 6
def z1c (x r:List UInt64) (i k:Nat):UInt64:=if 5≤i+k then g64 x i*g64 r k*5 else g64 x i*g64 r k
def zd0 (x r:List UInt64):Nat→List UInt64
  |0=> [0,0,0,0,0]
  |n+1=>(zd0 x r n).set ((n/ 5+n%5)%5) (g64 (zd0 x r n) ((n/ 5+n%5)%5)+z1c x r (n/ 5) (n%5))
theorem ziv (x r:List UInt64): ∀n,(zd0 x r n).length=5
  |0=>rfl
  |n+1=>by simp only [zd0,List.length_set];exact ziv x r n
theorem z51 (x r:List UInt64) (n:Nat):zd0 x r (n+1)=(zd0 x r n).set ((n/ 5+n%5)%5) (g64 (zd0 x r n) ((n/ 5+n%5)%5)+z1c x r (n/ 5) (n%5)):=rfl
def zrx (x r:List UInt64):List UInt64:=car (zd0 x r 25)
end Go.Sym.Pol
namespace Go.Sym.Pol
open Go.Sym.Lp
def z06 (x y:List UInt64):List UInt64:=(List.range 5).map fun i=>g64 x i+g64 y i
theorem z2j (x y:List UInt64):(z06 x y).length=5:=z4 _ _
theorem zco (x:List UInt64):(car x).length=x.length:=zjs x 6
theorem zxe (x r:List UInt64):(zrx x r).length=5:=by unfold zrx;rw [zco,ziv]
theorem zs4 (x:List UInt64) (i:Nat) (h: ¬i%5=4):zau x (i+1)=((zau x i).set (i%5) (g64 (zau x i) (i%5)&&&M26)).set (i%5+1) (g64 ((zau x i).set (i%5) (g64 (zau x i) (i%5)&&&M26)) (i%5+1)+g64 (zau x i) (i%5)>>>(26:UInt64)):=by
  simp only [zau];rw [if_neg h]
theorem zug (x:List UInt64) (i:Nat) (h:i%5=4):zau x (i+1)=((zau x i).set (i%5) (g64 (zau x i) (i%5)&&&M26)).set 0 (g64 ((zau x i).set (i%5) (g64 (zau x i) (i%5)&&&M26)) 0+5*g64 (zau x i) (i%5)>>>(26:UInt64)):=by
  simp only [zau];rw [if_pos h]
def zhr (b:List UInt8):Nat→List UInt64
  |0=> [0,0,0]
  |i+1=>(zhr b i).set (i/ 8) (g64 (zhr b i) (i/ 8)|||(b.getD i 0).toUInt64<<<UInt64.ofNat (8*(i%8)))
theorem zrb (b:List UInt8): ∀i,(zhr b i).length=3
  |0=>rfl
  |i+1=>by simp only [zhr,List.length_set];exact zrb b i
def ldW (b:List UInt8):List UInt64:=(zhr b b.length).set (b.length/ 8) (g64 (zhr b b.length) (b.length/ 8)|||(1:UInt64)<<<UInt64.ofNat (8*(b.length%8)))
def ybl (w:List UInt64):List UInt64:=
  [g64 w 0&&&M26,g64 w 0>>>(26:UInt64)&&&M26,(g64 w 0>>>(52:UInt64)|||g64 w 1<<<(12:UInt64))&&&M26,g64 w 1>>>(14:UInt64)&&&M26,g64 w 1>>>(40:UInt64)|||g64 w 2<<<(24:UInt64)]
def zgh (b:List UInt8):List UInt64:=ybl (ldW b)
theorem zjb (b:List UInt8):(zgh b).length=5:=rfl
def zsp (r x:List UInt64) (b:List UInt8):List UInt64:=zrx (z06 x (zgh b)) r
theorem zzk (r x:List UInt64) (b:List UInt8):(zsp r x b).length=5:=zxe _ _
end Go.Sym.Pol
namespace Go.Sym.Pol
theorem z4j (x r:List UInt64) {i k:Nat} (hk:k<5):zd0 x r (5*i+k+1)=(zd0 x r (5*i+k)).set ((i+k)%5) (g64 (zd0 x r (5*i+k)) ((i+k)%5)+z1c x r i k):=by
  rw [z51,show (5*i+k)/ 5=i by omega,show (5*i+k)%5=k by omega]
end Go.Sym.Pol
namespace Go.Sym.Pol
open Go.Sym.Lp
def zj6 (r x:List UInt64) (B:List UInt8):Nat→List UInt64
  |0=>x
  |t+1=>zsp r (zj6 r x B t) ((B.drop (16*t)).take 16)
def zd3 (r x:List UInt64) (B:List UInt8):List UInt64:=zj6 r x B ((B.length+15)/ 16)
theorem zjn {r x:List UInt64} (hx:x.length=5) (B:List UInt8): ∀t,(zj6 r x B t).length=5
  |0=>hx
  |_+1=>zzk _ _ _
theorem zlw {r x:List UInt64} (hx:x.length=5) (B:List UInt8):(zd3 r x B).length=5:=zjn hx B _
theorem z5f {l:List UInt8} {n a:Nat}:((l.take n).drop a).take 16=(l.drop a).take (min 16 (n-a)):=by
  rw [List.drop_take,List.take_take]
def zbi (x:List UInt64):Nat→List UInt64
  |0=>x.set 0 (g64 x 0+5)
  |i+1=>((zbi x i).set (i+1) (g64 (zbi x i) (i+1)+g64 (zbi x i) i>>>(26:UInt64))).set i (g64 ((zbi x i).set (i+1) (g64 (zbi x i) (i+1)+g64 (zbi x i) i>>>(26:UInt64))) i&&&M26)
theorem zja (x:List UInt64): ∀i,(zbi x i).length=x.length
  |0=>by simp [zbi]
  |i+1=>by simp only [zbi,List.length_set];exact zja x i
def zbf (x:List UInt64):List UInt64:=
  if 0<(g64 (zbi (car (car x)) 4) 4>>>(26:UInt64)).toNat then (zbi (car (car x)) 4).set 4 (g64 (zbi (car (car x)) 4) 4&&&M26) else car (car x)
theorem zwl {x:List UInt64} (h:x.length=5):(zbf x).length=5:=by
  unfold zbf;split
  ·rw [List.length_set,zja,zco,zco,h]
  ·rw [zco,zco,h]
def zws (x:List UInt64):UInt64:=g64 x 0|||g64 x 1<<<(26:UInt64)|||g64 x 2<<<(52:UInt64)
def zol (x:List UInt64):UInt64:=g64 x 2>>>(12:UInt64)|||g64 x 3<<<(14:UInt64)|||g64 x 4<<<(40:UInt64)
def zbt (lo hi:UInt64) (key:List UInt8):Nat→List UInt8×UInt64
  |0=>(List.replicate 16 0,0)
  |i+1=>
   let c:=(zbt lo hi key i).2+(((if 8≤i then hi else lo)>>>UInt64.ofNat (8*(i%8))&&&255)+(key.getD (16+i) 0).toUInt64)
   ((zbt lo hi key i).1.set i c.toUInt8,c>>>(8:UInt64))
theorem zlk (lo hi:UInt64) (key:List UInt8): ∀i,(zbt lo hi key i).1.length=16
  |0=>rfl
  |i+1=>by simp only [zbt,List.length_set];exact zlk lo hi key i
def zh5 (x:List UInt64) (key:List UInt8):List UInt8:=(zbt (zws (zbf x)) (zol (zbf x)) key 16).1
theorem zwz (x:List UInt64) (key:List UInt8):(zh5 x key).length=16:=zlk _ _ _ 16
end Go.Sym.Pol
namespace Go.Sym.Pol
section
variable (lo hi:UInt64) (key:List UInt8) {i:Nat}
theorem zuj:zbt lo hi key 0=(List.replicate 16 0,0):=rfl
theorem z5d (h:8≤i):zbt lo hi key (i+1)=((zbt lo hi key i).1.set i ((zbt lo hi key i).2+((hi>>>UInt64.ofNat (8*(i%8))&&&255)+(key.getD (16+i) 0).toUInt64)).toUInt8,((zbt lo hi key i).2+((hi>>>UInt64.ofNat (8*(i%8))&&&255)+(key.getD (16+i) 0).toUInt64))>>>(8:UInt64)):=by
  simp only [zbt];rw [if_pos h]
theorem z5c (h: ¬8≤i):zbt lo hi key (i+1)=((zbt lo hi key i).1.set i ((zbt lo hi key i).2+((lo>>>UInt64.ofNat (8*(i%8))&&&255)+(key.getD (16+i) 0).toUInt64)).toUInt8,((zbt lo hi key i).2+((lo>>>UInt64.ofNat (8*(i%8))&&&255)+(key.getD (16+i) 0).toUInt64))>>>(8:UInt64)):=by
  simp only [zbt];rw [if_neg h]
end
end Go.Sym.Pol
namespace Go.Sym.Pol
open Go.Sym.Lp
def cA (b:List UInt8):Nat→List UInt8
  |0=>b
  |j+1=>(cA b j).set (3+4*j) ((cA b j).getD (3+4*j) 0&&&UInt8.ofNat 15)
def cC (b:List UInt8):Nat→List UInt8
  |0=>b
  |j+1=>(cC b j).set (4+4*j) ((cC b j).getD (4+4*j) 0&&&UInt8.ofNat 252)
theorem zyi (b:List UInt8): ∀j,(cA b j).length=b.length
  |0=>rfl
  |j+1=>by simp only [cA,List.length_set];exact zyi b j
theorem z1y (b:List UInt8): ∀j,(cC b j).length=b.length
  |0=>rfl
  |j+1=>by simp only [cC,List.length_set];exact z1y b j
theorem zot {b tl:List UInt8} {k:Nat} (h:k<b.length) (m:UInt8):(b++tl).set k ((b++tl).getD k 0&&&m)=b.set k (b.getD k 0&&&m)++tl:=by
  rw [List.set_append_left _ _ h,List.getD_eq_getElem?_getD,List.getElem?_append_left h,←List.getD_eq_getElem?_getD]
def rOf (key:List UInt8):List UInt64:=(zgh (cC (cA (key.take 16) 4) 3)).set 4 (g64 (zgh (cC (cA (key.take 16) 4) 3)) 4&&&UInt64.ofNat 16777215)
theorem z3o (key:List UInt8):(rOf key).length=5:=by unfold rOf;rw [List.length_set];exact zjb _
def zdh (n:Nat):List UInt8:=List.replicate ((16-n%16)%16) 0
def zih (n:Nat):List UInt8:= [UInt8.ofInt (n:Int),UInt8.ofInt ((n:Int)/ 2^8),UInt8.ofInt ((n:Int)/ 2^16),UInt8.ofInt ((n:Int)/ 2^24),0,0,0,0]
def zzv (r:List UInt64) (aad b:List UInt8):List UInt64:=
  zd3 r (zd3 r (zd3 r [0,0,0,0,0] (aad++zdh aad.length)) (b.take (b.length-b.length%16))) (b.drop (b.length-b.length%16)++zdh b.length++zih aad.length++zih b.length)
end Go.Sym.Pol
namespace Go.Sym.Pol
theorem zjy (n:Nat):(zdh n).length=(16-n%16)%16:=by unfold zdh;exact List.length_replicate
theorem zhp (n:Nat):(zih n).length=8:=rfl
end Go.Sym.Pol
