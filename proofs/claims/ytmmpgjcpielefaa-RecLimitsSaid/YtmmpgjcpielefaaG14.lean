/-
  Contracts of functions of the program, each said of symbolic values, and plain laws; no condition beyond each statement's own.
-/
import Derived.Test.YtmmpgjcpielefaaG13
import Derived.Test.YtmmpgjcpielefaaG2
import Derived.Test.YtmmpgjcpielefaaG12
set_option linter.unusedSimpArgs false
set_option linter.unusedVariables false
namespace Go.Sym.A
open Go Go.Proofs.Try Go.Sym.Lp Go.Sym.Cha Go.Sym.Sha Go.Sym.Hk
set_option maxRecDepth 100000
attribute [local irreducible] xw KC HB za1 wrH wrR zhm zdj bk
def z6d:List (Nat×List PStep):= [(6,[⟨0,[]⟩,⟨1,[]⟩,⟨2,[0,1]⟩,⟨3,[0,1]⟩,⟨4,[2,3]⟩,⟨5,[]⟩]),(15,[⟨0,[]⟩,⟨1,[]⟩,⟨2,[0,1]⟩,⟨3,[0,1]⟩,⟨4,[2,3]⟩,⟨5,[]⟩])]
def z8s:List (Nat×TyI):= [(3,ty3),(4,ty4),(5,ty5),(9,ty9),(34,zdh),(35,zdd),(93,zb7),(91,x4),(198,zen),(183,zei),(185,zfv)]
theorem zb5: ∀t i,yw z8s t=some i→yp prog t i:=(zc ty3_ok (zc zc3 (zc zcz (zc ty9_ok (zc zbh (zc zbl (zc zcx (zc zcy (zc zqs (zc zqv (zc zym zao)))))))))))
theorem zg1 (key:List UInt8) (N i:Nat):(key++List.replicate (N-key.length) 0).getD i 0=key.getD i 0:=by
  rw [List.getD_eq_getElem?_getD,List.getD_eq_getElem?_getD]
  by_cases h:i<key.length
  ·rw [List.getElem?_append_left h]
  ·rw [List.getElem?_append_right (by omega),List.getElem?_eq_none (show key.length≤i by omega),List.getElem?_replicate]
   split<;>rfl
theorem zd5 {key:List UInt8} {N:Nat} (h:key.length≤N):zx (List.replicate N 0) (off []) (List.take (min key.length N) key)=key++List.replicate (N-key.length) 0:=by
  rw [List.take_of_length_le (show key.length≤min key.length N by omega)]
  unfold zx
  show List.take 0 _++key++List.drop (0+key.length) _=_
  rw [List.take_zero,List.nil_append,List.drop_replicate,Nat.zero_add]
def zww:Spec:=fun args hp K=>match args,hp with
  | [.int n,.str key],[]=>Pre ((n=256∨n=384)∧key.length≤140737488351232) (K (.tup [.str (pdX (bk n) (kN n key) 54),.str (pdX (bk n) (kN n key) 92)]) [])
  |_,_=>False
set_option maxHeartbeats 4000000 in
theorem z5q:zp prog 132 zww:=by
  refine zo zb5 (zd zyq zk) rfl func132 rfl call132 (D:=z6d) ?_ ?_
  ·intro args hp K h
   unfold zww at h
   split at h
   ·exact Nat.le_of_ble_eq_true rfl
   ·exact h.elim
  ·intro args hp K h
   unfold zww at h
   split at h
   ·rename_i n key
    obtain ⟨⟨hn,hk⟩,h⟩:=zl h
    have hn2:=hn
    rcases hn with hn|hn
    ·have hb:bk n=64:=by unfold bk;rw [if_pos hn]
     have hp4:(4:Int)≠0∧yh (n.tdiv 4):=by rw [hn];exact ⟨by decide,by unfold yh;decide⟩
     have hd4:n.tdiv 4=64:=by rw [hn];rfl
     have hps:(n=256∨n=384)∧key.length≤140737488351232:=⟨hn2,hk⟩
     by_cases hl:64<key.length
     ·have hX:kN n key=(zhm n key):=by unfold kN;rw [hb];exact if_pos hl
      rw [hX] at h
      have hXl:(zhm n key).length≤64:=by rw [zri hn2];unfold dl;split<;>omega
      obtain ⟨Y,hY⟩: ∃Y,Y=(zhm n key):=⟨_,rfl⟩
      rw [←hY] at h hXl
      obtain ⟨KP,hKP⟩: ∃KP,KP=Y++List.replicate (64-Y.length) 0:=⟨_,rfl⟩
      have hKl:KP.length=64:=by rw [hKP,List.length_append,List.length_replicate];omega
      have hKg: ∀i,KP.getD i 0=Y.getD i 0:=fun i=>by rw [hKP];exact zg1 Y 64 i
      have hsp:=zd5 hXl
      rw [←hKP] at hsp
      refine wk ?_
      rw [hd4]
      rw [←hY]
      rw [show zx (List.replicate (Int.toNat 64) 0) (off []) (List.take (min Y.length (Int.toNat 64)) Y)=KP from hsp]
      refine zt (Ix (64)) (fun q=>⟨[(7,.sl 0 0 0 [] 64 64),(8,.sl 1 0 0 [] 64 64),(34,.int 64),(35,.int q.i)],[.mk 5 [.arr8 64 (ovr KP 0 (fun i=>KP.getD i 0^^^54) q.i)],.mk 5 [.arr8 64 (ovr KP 0 (fun i=>KP.getD i 0^^^92) q.i)]]⟩) (fun q=>(64)-q.i) ⟨0,Nat.zero_le _⟩ [0,1] ?_ ?_
      ·repeat ((conv=>whnf);refine za ?_)
       exact trivial
      ·intro q
       have hi:=q.hi
       have h1:=yn (l:=KP) (a:=0) (i:=q.i) (by omega) (fun i=>KP.getD i 0^^^54)
       have h2:=yn (l:=KP) (a:=0) (i:=q.i) (by omega) (fun i=>KP.getD i 0^^^92)
       have hI:((q.i:Int)).toNat=q.i:=Int.toNat_natCast _
       by_cases h4:q.i<64
       ·refine wk ?_
        refine ⟨⟨q.i+1,h4⟩,[0,1],by show (64)-(q.i+1)<(64)-q.i;omega,?_⟩
        repeat ((conv=>whnf);refine za ?_)
        conv=>whnf
        refine zh (congrArg (fun x=>SV.agg [SV.arr8 64 x]) (yb (by omega) ?hv ?hkk)) ?_
        case hkk=>show ((q.i:Int)).toNat=0+q.i;omega
        case hv=>show (ovr KP 0 _ q.i).getD ((q.i:Int)).toNat 0^^^UInt8.ofNat 54=_;rw [hI,yt (by omega) _ (by omega)];rfl
        repeat ((conv=>whnf);refine za ?_)
        conv=>whnf
        refine zh (congrArg (fun x=>SV.agg [SV.arr8 64 x]) (yb (by omega) ?hv ?hkk)) ?_
        case hkk=>show ((q.i:Int)).toNat=0+q.i;omega
        case hv=>show (ovr KP 0 _ q.i).getD ((q.i:Int)).toNat 0^^^UInt8.ofNat 92=_;rw [hI,yt (by omega) _ (by omega)];rfl
        repeat ((conv=>whnf);refine za ?_)
        exact trivial
       ·have e4:q.i=64:=by omega
        have hp: ∀b,ovr KP 0 (fun i=>KP.getD i 0^^^b) 64=pdX (bk n) Y b:=fun b=>by
          rw [xu hKl,hb];unfold pdX
          exact y9 fun i _=>by rw [hKg]
        have hq: ∀b,List.take 64 (List.drop (off []) (pdX (bk n) Y b))=pdX (bk n) Y b:=fun b=>List.take_of_length_le (by show (pdX (bk n) Y b).length≤_;rw [zbi,hb];exact Nat.le_refl _)
        have hl3: ∀b,off []+64≤(pdX (bk n) Y b).length:=fun b=>by rw [zbi,hb];show 0+64≤64;exact Nat.le_of_eq (Nat.zero_add _)
        have hl54:=hl3 54
        have hl92:=hl3 92
        rw [e4,hp 54,hp 92]
        refine wk ?_
        rw [hq 54,hq 92]
        conv=>whnf
        exact ze (hp':= []) [] h
     ·have hX:kN n key=key:=by unfold kN;rw [hb];exact if_neg hl
      rw [hX] at h
      have hXl:key.length≤64:=by omega
      obtain ⟨Y,hY⟩: ∃Y,Y=key:=⟨_,rfl⟩
      rw [←hY] at h hXl
      obtain ⟨KP,hKP⟩: ∃KP,KP=Y++List.replicate (64-Y.length) 0:=⟨_,rfl⟩
      have hKl:KP.length=64:=by rw [hKP,List.length_append,List.length_replicate];omega
      have hKg: ∀i,KP.getD i 0=Y.getD i 0:=fun i=>by rw [hKP];exact zg1 Y 64 i
      have hsp:=zd5 hXl
      rw [←hKP] at hsp
      refine wk ?_
      rw [hd4]
      rw [←hY]
      rw [show zx (List.replicate (Int.toNat 64) 0) (off []) (List.take (min Y.length (Int.toNat 64)) Y)=KP from hsp]
      refine zt (Ix (64)) (fun q=>⟨[(7,.sl 0 0 0 [] 64 64),(8,.sl 1 0 0 [] 64 64),(34,.int 64),(35,.int q.i)],[.mk 5 [.arr8 64 (ovr KP 0 (fun i=>KP.getD i 0^^^54) q.i)],.mk 5 [.arr8 64 (ovr KP 0 (fun i=>KP.getD i 0^^^92) q.i)]]⟩) (fun q=>(64)-q.i) ⟨0,Nat.zero_le _⟩ [0,1] ?_ ?_
      ·repeat ((conv=>whnf);refine za ?_)
       exact trivial
      ·intro q
       have hi:=q.hi
       have h1:=yn (l:=KP) (a:=0) (i:=q.i) (by omega) (fun i=>KP.getD i 0^^^54)
       have h2:=yn (l:=KP) (a:=0) (i:=q.i) (by omega) (fun i=>KP.getD i 0^^^92)
       have hI:((q.i:Int)).toNat=q.i:=Int.toNat_natCast _
       by_cases h4:q.i<64
       ·refine wk ?_
        refine ⟨⟨q.i+1,h4⟩,[0,1],by show (64)-(q.i+1)<(64)-q.i;omega,?_⟩
        repeat ((conv=>whnf);refine za ?_)
        conv=>whnf
        refine zh (congrArg (fun x=>SV.agg [SV.arr8 64 x]) (yb (by omega) ?hv ?hkk)) ?_
        case hkk=>show ((q.i:Int)).toNat=0+q.i;omega
        case hv=>show (ovr KP 0 _ q.i).getD ((q.i:Int)).toNat 0^^^UInt8.ofNat 54=_;rw [hI,yt (by omega) _ (by omega)];rfl
        repeat ((conv=>whnf);refine za ?_)
        conv=>whnf
        refine zh (congrArg (fun x=>SV.agg [SV.arr8 64 x]) (yb (by omega) ?hv ?hkk)) ?_
        case hkk=>show ((q.i:Int)).toNat=0+q.i;omega
        case hv=>show (ovr KP 0 _ q.i).getD ((q.i:Int)).toNat 0^^^UInt8.ofNat 92=_;rw [hI,yt (by omega) _ (by omega)];rfl
        repeat ((conv=>whnf);refine za ?_)
        exact trivial
       ·have e4:q.i=64:=by omega
        have hp: ∀b,ovr KP 0 (fun i=>KP.getD i 0^^^b) 64=pdX (bk n) Y b:=fun b=>by
          rw [xu hKl,hb];unfold pdX
          exact y9 fun i _=>by rw [hKg]
        have hq: ∀b,List.take 64 (List.drop (off []) (pdX (bk n) Y b))=pdX (bk n) Y b:=fun b=>List.take_of_length_le (by show (pdX (bk n) Y b).length≤_;rw [zbi,hb];exact Nat.le_refl _)
        have hl3: ∀b,off []+64≤(pdX (bk n) Y b).length:=fun b=>by rw [zbi,hb];show 0+64≤64;exact Nat.le_of_eq (Nat.zero_add _)
        have hl54:=hl3 54
        have hl92:=hl3 92
        rw [e4,hp 54,hp 92]
        refine wk ?_
        rw [hq 54,hq 92]
        conv=>whnf
        exact ze (hp':= []) [] h
    ·have hb:bk n=128:=by unfold bk;rw [if_neg (by omega)]
     have hp4:(4:Int)≠0∧yh (n.tdiv 4):=by rw [hn];exact ⟨by decide,by unfold yh;decide⟩
     have hd4:n.tdiv 4=96:=by rw [hn];rfl
     have hps:(n=256∨n=384)∧key.length≤140737488351232:=⟨hn2,hk⟩
     by_cases hl:128<key.length
     ·have hX:kN n key=(zhm n key):=by unfold kN;rw [hb];exact if_pos hl
      rw [hX] at h
      have hXl:(zhm n key).length≤128:=by rw [zri hn2];unfold dl;split<;>omega
      obtain ⟨Y,hY⟩: ∃Y,Y=(zhm n key):=⟨_,rfl⟩
      rw [←hY] at h hXl
      obtain ⟨KP,hKP⟩: ∃KP,KP=Y++List.replicate (128-Y.length) 0:=⟨_,rfl⟩
      have hKl:KP.length=128:=by rw [hKP,List.length_append,List.length_replicate];omega
      have hKg: ∀i,KP.getD i 0=Y.getD i 0:=fun i=>by rw [hKP];exact zg1 Y 128 i
      have hsp:=zd5 hXl
      rw [←hKP] at hsp
      refine wk ?_
      skip
      rw [←hY]
      rw [show zx (List.replicate (Int.toNat 128) 0) (off []) (List.take (min Y.length (Int.toNat 128)) Y)=KP from hsp]
      refine zt (Ix (128)) (fun q=>⟨[(7,.sl 0 0 0 [] 128 128),(8,.sl 1 0 0 [] 128 128),(34,.int 128),(35,.int q.i)],[.mk 5 [.arr8 128 (ovr KP 0 (fun i=>KP.getD i 0^^^54) q.i)],.mk 5 [.arr8 128 (ovr KP 0 (fun i=>KP.getD i 0^^^92) q.i)]]⟩) (fun q=>(128)-q.i) ⟨0,Nat.zero_le _⟩ [0,1] ?_ ?_
      ·repeat ((conv=>whnf);refine za ?_)
       exact trivial
      ·intro q
       have hi:=q.hi
       have h1:=yn (l:=KP) (a:=0) (i:=q.i) (by omega) (fun i=>KP.getD i 0^^^54)
       have h2:=yn (l:=KP) (a:=0) (i:=q.i) (by omega) (fun i=>KP.getD i 0^^^92)
       have hI:((q.i:Int)).toNat=q.i:=Int.toNat_natCast _
       by_cases h4:q.i<128
       ·refine wk ?_
        refine ⟨⟨q.i+1,h4⟩,[0,1],by show (128)-(q.i+1)<(128)-q.i;omega,?_⟩
        repeat ((conv=>whnf);refine za ?_)
        conv=>whnf
        refine zh (congrArg (fun x=>SV.agg [SV.arr8 128 x]) (yb (by omega) ?hv ?hkk)) ?_
        case hkk=>show ((q.i:Int)).toNat=0+q.i;omega
        case hv=>show (ovr KP 0 _ q.i).getD ((q.i:Int)).toNat 0^^^UInt8.ofNat 54=_;rw [hI,yt (by omega) _ (by omega)];rfl
        repeat ((conv=>whnf);refine za ?_)
        conv=>whnf
        refine zh (congrArg (fun x=>SV.agg [SV.arr8 128 x]) (yb (by omega) ?hv ?hkk)) ?_
        case hkk=>show ((q.i:Int)).toNat=0+q.i;omega
        case hv=>show (ovr KP 0 _ q.i).getD ((q.i:Int)).toNat 0^^^UInt8.ofNat 92=_;rw [hI,yt (by omega) _ (by omega)];rfl
        repeat ((conv=>whnf);refine za ?_)
        exact trivial
       ·have e4:q.i=128:=by omega
        have hp: ∀b,ovr KP 0 (fun i=>KP.getD i 0^^^b) 128=pdX (bk n) Y b:=fun b=>by
          rw [xu hKl,hb];unfold pdX
          exact y9 fun i _=>by rw [hKg]
        have hq: ∀b,List.take 128 (List.drop (off []) (pdX (bk n) Y b))=pdX (bk n) Y b:=fun b=>List.take_of_length_le (by show (pdX (bk n) Y b).length≤_;rw [zbi,hb];exact Nat.le_refl _)
        have hl3: ∀b,off []+128≤(pdX (bk n) Y b).length:=fun b=>by rw [zbi,hb];show 0+128≤128;exact Nat.le_of_eq (Nat.zero_add _)
        have hl54:=hl3 54
        have hl92:=hl3 92
        rw [e4,hp 54,hp 92]
        refine wk ?_
        rw [hq 54,hq 92]
        conv=>whnf
        exact ze (hp':= []) [] h
     ·have hX:kN n key=key:=by unfold kN;rw [hb];exact if_neg hl
      rw [hX] at h
      have hXl:key.length≤128:=by omega
      obtain ⟨Y,hY⟩: ∃Y,Y=key:=⟨_,rfl⟩
      rw [←hY] at h hXl
      obtain ⟨KP,hKP⟩: ∃KP,KP=Y++List.replicate (128-Y.length) 0:=⟨_,rfl⟩
      have hKl:KP.length=128:=by rw [hKP,List.length_append,List.length_replicate];omega
      have hKg: ∀i,KP.getD i 0=Y.getD i 0:=fun i=>by rw [hKP];exact zg1 Y 128 i
      have hsp:=zd5 hXl
      rw [←hKP] at hsp
      refine wk ?_
      skip
      rw [←hY]
      rw [show zx (List.replicate (Int.toNat 128) 0) (off []) (List.take (min Y.length (Int.toNat 128)) Y)=KP from hsp]
      refine zt (Ix (128)) (fun q=>⟨[(7,.sl 0 0 0 [] 128 128),(8,.sl 1 0 0 [] 128 128),(34,.int 128),(35,.int q.i)],[.mk 5 [.arr8 128 (ovr KP 0 (fun i=>KP.getD i 0^^^54) q.i)],.mk 5 [.arr8 128 (ovr KP 0 (fun i=>KP.getD i 0^^^92) q.i)]]⟩) (fun q=>(128)-q.i) ⟨0,Nat.zero_le _⟩ [0,1] ?_ ?_
      ·repeat ((conv=>whnf);refine za ?_)
       exact trivial
      ·intro q
       have hi:=q.hi
       have h1:=yn (l:=KP) (a:=0) (i:=q.i) (by omega) (fun i=>KP.getD i 0^^^54)
       have h2:=yn (l:=KP) (a:=0) (i:=q.i) (by omega) (fun i=>KP.getD i 0^^^92)
       have hI:((q.i:Int)).toNat=q.i:=Int.toNat_natCast _
       by_cases h4:q.i<128
       ·refine wk ?_
        refine ⟨⟨q.i+1,h4⟩,[0,1],by show (128)-(q.i+1)<(128)-q.i;omega,?_⟩
        repeat ((conv=>whnf);refine za ?_)
        conv=>whnf
        refine zh (congrArg (fun x=>SV.agg [SV.arr8 128 x]) (yb (by omega) ?hv ?hkk)) ?_
        case hkk=>show ((q.i:Int)).toNat=0+q.i;omega
        case hv=>show (ovr KP 0 _ q.i).getD ((q.i:Int)).toNat 0^^^UInt8.ofNat 54=_;rw [hI,yt (by omega) _ (by omega)];rfl
        repeat ((conv=>whnf);refine za ?_)
        conv=>whnf
        refine zh (congrArg (fun x=>SV.agg [SV.arr8 128 x]) (yb (by omega) ?hv ?hkk)) ?_
        case hkk=>show ((q.i:Int)).toNat=0+q.i;omega
        case hv=>show (ovr KP 0 _ q.i).getD ((q.i:Int)).toNat 0^^^UInt8.ofNat 92=_;rw [hI,yt (by omega) _ (by omega)];rfl
        repeat ((conv=>whnf);refine za ?_)
        exact trivial
       ·have e4:q.i=128:=by omega
        have hp: ∀b,ovr KP 0 (fun i=>KP.getD i 0^^^b) 128=pdX (bk n) Y b:=fun b=>by
          rw [xu hKl,hb];unfold pdX
          exact y9 fun i _=>by rw [hKg]
        have hq: ∀b,List.take 128 (List.drop (off []) (pdX (bk n) Y b))=pdX (bk n) Y b:=fun b=>List.take_of_length_le (by show (pdX (bk n) Y b).length≤_;rw [zbi,hb];exact Nat.le_refl _)
        have hl3: ∀b,off []+128≤(pdX (bk n) Y b).length:=fun b=>by rw [zbi,hb];show 0+128≤128;exact Nat.le_of_eq (Nat.zero_add _)
        have hl54:=hl3 54
        have hl92:=hl3 92
        rw [e4,hp 54,hp 92]
        refine wk ?_
        rw [hq 54,hq 92]
        conv=>whnf
        exact ze (hp':= []) [] h
   ·exact h.elim
end Go.Sym.A

namespace Go.Sym.A
open Go Go.Proofs.Try Go.Sym.Lp Go.Sym.Cha Go.Sym.Sha Go.Sym.Hk
set_option maxRecDepth 100000
attribute [local irreducible] xw KC HB za1 wrH wrR zhm zdj bk kN pdX
def z7q:List (Nat×List PStep):= []
def z7e:List (Nat×List PStep):= [(1,[⟨0,[]⟩,⟨1,[]⟩,⟨3,[0,1]⟩,⟨4,[0,1]⟩,⟨2,[3,4]⟩,⟨5,[]⟩,⟨6,[]⟩,⟨7,[]⟩])]
theorem zrn {n:Int} {x:List UInt8} (h:x.length=bk n):(wrR n [] x).length=0:=by
  rw [zhj,h,List.length_nil,Nat.zero_add,Nat.mod_self]
def zo8:Spec:=fun args hp K=>match args,hp with
  | [.int n,.str key],[]=>Pre (key.length≤140737488351232)
      (zr (decide (n=256∨n=384))
        (K (.tup [.agg [.ptr 0 0 0 [],.ptr 1 0 0 []],.int 0]) [.mk 198 [.int n,.arr64 8 (mP n key 54),.arr64 80 KC,.nilsl,.u64 (UInt64.ofNat (bk n))],.mk 198 [.int n,.arr64 8 (mP n key 92),.arr64 80 KC,.nilsl,.u64 (UInt64.ofNat (bk n))]])
        (K (.tup [.agg [.nilptr,.nilptr],.int 300]) []))
  |_,_=>False
theorem zzk:zp prog 129 zo8:=by
  refine zo zb5 (zd zy6 (zd z5q (zd zg2 zk))) rfl func129 rfl call129 (D:=z7q) ?_ ?_
  ·intro args hp K h
   unfold zo8 at h
   split at h
   ·exact Nat.le_of_ble_eq_true rfl
   ·exact h.elim
  ·intro args hp K h
   unfold zo8 at h
   split at h
   ·rename_i n key
    obtain ⟨hk,h⟩:=zl h
    obtain ⟨ht,hf⟩:=zu h
    by_cases hn:n=256∨n=384
    ·have h:=ht (decide_eq_true hn)
     have hd:=decide_eq_true hn
     have hkc:=zpb
     have hl:=zpc n
     have hp:=And.intro hn hk
     have hbk:bk n≤128:=by unfold bk;split<;>omega
     have hx1:=zbi (bk n) (kN n key) 54
     have hx2:=zbi (bk n) (kN n key) 92
     have hz1:=zrn hx1
     have hz2:=zrn hx2
     have ha:(0:UInt64)+UInt64.ofNat (bk n)=UInt64.ofNat (bk n):=UInt64.zero_add _
     repeat ((conv=>whnf);first|refine zn ?_|refine zf ?_|refine zg ?_|refine za ?_|refine zq (by first|exact hd) ?_|refine zi (by first|exact hd) ?_|refine zj (by first|exact hd) ?_)
     conv=>whnf
     rw [hx1,hx2,ha]
     conv=>whnf
     exact ze (hp':= [.mk 198 [.int n,.arr64 8 (mP n key 54),.arr64 80 KC,.nilsl,.u64 (UInt64.ofNat (bk n))],.mk 198 [.int n,.arr64 8 (mP n key 92),.arr64 80 KC,.nilsl,.u64 (UInt64.ofNat (bk n))]]) [1,2] h
    ·have h:=hf (decide_eq_false hn)
     have hd:=decide_eq_false hn
     repeat ((conv=>whnf);first|refine zn ?_|refine zf ?_|refine zg ?_|refine za ?_|refine zq (by first|exact hd) ?_|refine zi (by first|exact hd) ?_|refine zj (by first|exact hd) ?_)
     conv=>whnf
     exact ze (hp':= []) [] h
   ·exact h.elim
def ztq:Spec:=fun args hp K=>match args,hp with
  | [.agg [.ptr 0 0 0 [],.ptr 1 0 0 []],.str s],[.mk t0 [.int n,.arr64 8 H1,.arr64 80 k1,.nilsl,.u64 a1],.mk t1 [.int n2,.arr64 8 H2,.arr64 80 k2,.nilsl,.u64 a2]]=>
      Pre ((n=256∨n=384)∧n2=n∧t0=198∧t1=198∧k1=KC∧k2=KC∧a1=UInt64.ofNat (bk n)∧a2=UInt64.ofNat (bk n)∧H1.length=8∧H2.length=8∧s.length≤1073741824)
      (K (.str (dgF n H2 (dgF n H1 s))) [.mk t0 [.int n,.arr64 8 H1,.arr64 80 k1,.nilsl,.u64 a1],.mk t1 [.int n2,.arr64 8 H2,.arr64 80 k2,.nilsl,.u64 a2]])
  |_,_=>False
theorem z1p:zp prog 130 ztq:=by
  refine zo zb5 (zd zux (zd zg2 (zd zus zk))) rfl func130 rfl call130 (D:=z7e) ?_ ?_
  ·intro args hp K h
   unfold ztq at h
   split at h
   ·exact Nat.le_of_ble_eq_true rfl
   ·exact h.elim
  ·intro args hp K h
   unfold ztq at h
   split at h
   ·rename_i s t0 n H1 k1 a1 t1 n2 H2 k2 a2
    obtain ⟨⟨hn,e2,e3,e4,e5,e6,e7,e8,hl1,hl2,hs⟩,h'⟩:=zl h
    clear h
    subst e2 e3 e4 e5 e6 e7 e8
    have hkc:=zpb
    have hpf1:H1.length=8∧KC.length=80∧198=198:=⟨hl1,hkc,rfl⟩
    have hpf2:H2.length=8∧KC.length=80∧198=198:=⟨hl2,hkc,rfl⟩
    have hw1:=zaf (n:=n2) (k:=KC) hl1 [] s
    have hr1:=zoj n2 [] s
    by_cases hz:(wrR n2 [] s).length=0
    ·skip
     have hz0:wrR n2 [] s= []:=List.length_eq_zero_iff.1 hz
     have hps:(wrH n2 KC H1 [] s).length=8∧KC.length=80∧198=198∧(n2=256∨n2=384):=⟨hw1,hkc,rfl,hn⟩
     obtain ⟨D,hD⟩: ∃D,D=(zdj n2 KC (wrH n2 KC H1 [] s) [] (UInt64.ofNat (bk n2)+UInt64.ofNat s.length)):=⟨_,rfl⟩
     have hDl:D.length=dl n2:=by rw [hD];exact zhi hn _ _ _ _
     have hDe:dgF n2 H1 s=D:=by unfold dgF;rw [hz0,←hD]
     have hdl:dl n2≤48:=by unfold dl;split<;>decide
     have hw2:=zaf (n:=n2) (k:=KC) hl2 [] D
     have hr2:=zoj n2 [] D
     have hnz: ¬(wrR n2 [] D).length=0:=by
       rw [zhj,List.length_nil,Nat.zero_add,hDl]
       unfold dl bk
       rcases hn with rfl|rfl<;>decide
     rw [hDe] at h'
     refine wk ?_
     rw [←hD]
     refine wk ?_
     refine yq fun t2=>?_
     have htk2:List.take (wrR n2 [] D).length (wrR n2 [] D++t2)=wrR n2 [] D:=List.take_left' rfl
     have hps2:(wrH n2 KC H2 [] D).length=8∧KC.length=80∧198=198∧(n2=256∨n2=384)∧0<(wrR n2 [] D).length∧(wrR n2 [] D).length<bk n2∧(wrR n2 [] D).length≤(wrR n2 [] D).length+t2.length∧(wrR n2 [] D).length≤(wrR n2 [] D++t2).length:=⟨hw2,hkc,rfl,hn,by omega,hr2,by omega,by rw [List.length_append];omega⟩
     refine wk ?_
     rw [htk2]
     conv=>whnf
     exact ze (hp':= [.mk 198 [.int n2,.arr64 8 H1,.arr64 80 KC,.nilsl,.u64 (UInt64.ofNat (bk n2))],.mk 198 [.int n2,.arr64 8 H2,.arr64 80 KC,.nilsl,.u64 (UInt64.ofNat (bk n2))]]) [0,1] h'
    ·skip
     obtain ⟨D,hD⟩: ∃D,D=(zdj n2 KC (wrH n2 KC H1 [] s) (wrR n2 [] s) (UInt64.ofNat (bk n2)+UInt64.ofNat s.length)):=⟨_,rfl⟩
     have hDl:D.length=dl n2:=by rw [hD];exact zhi hn _ _ _ _
     have hDe:dgF n2 H1 s=D:=by unfold dgF;rw [←hD]
     have hdl:dl n2≤48:=by unfold dl;split<;>decide
     have hw2:=zaf (n:=n2) (k:=KC) hl2 [] D
     have hr2:=zoj n2 [] D
     have hnz: ¬(wrR n2 [] D).length=0:=by
       rw [zhj,List.length_nil,Nat.zero_add,hDl]
       unfold dl bk
       rcases hn with rfl|rfl<;>decide
     rw [hDe] at h'
     refine wk ?_
     refine yq fun t1=>?_
     have htk:List.take (wrR n2 [] s).length (wrR n2 [] s++t1)=wrR n2 [] s:=List.take_left' rfl
     have hps:(wrH n2 KC H1 [] s).length=8∧KC.length=80∧198=198∧(n2=256∨n2=384)∧0<(wrR n2 [] s).length∧(wrR n2 [] s).length<bk n2∧(wrR n2 [] s).length≤(wrR n2 [] s).length+t1.length∧(wrR n2 [] s).length≤(wrR n2 [] s++t1).length:=⟨hw1,hkc,rfl,hn,by omega,hr1,by omega,by rw [List.length_append];omega⟩
     refine wk ?_
     rw [htk,←hD]
     refine wk ?_
     refine yq fun t2=>?_
     have htk2:List.take (wrR n2 [] D).length (wrR n2 [] D++t2)=wrR n2 [] D:=List.take_left' rfl
     have hps2:(wrH n2 KC H2 [] D).length=8∧KC.length=80∧198=198∧(n2=256∨n2=384)∧0<(wrR n2 [] D).length∧(wrR n2 [] D).length<bk n2∧(wrR n2 [] D).length≤(wrR n2 [] D).length+t2.length∧(wrR n2 [] D).length≤(wrR n2 [] D++t2).length:=⟨hw2,hkc,rfl,hn,by omega,hr2,by omega,by rw [List.length_append];omega⟩
     refine wk ?_
     rw [htk2]
     conv=>whnf
     exact ze (hp':= [.mk 198 [.int n2,.arr64 8 H1,.arr64 80 KC,.nilsl,.u64 (UInt64.ofNat (bk n2))],.mk 198 [.int n2,.arr64 8 H2,.arr64 80 KC,.nilsl,.u64 (UInt64.ofNat (bk n2))]]) [0,1] h'
   ·exact h.elim
end Go.Sym.A

namespace Go.Sym.Ib
open Go Go.Sym
theorem ibits_and {a m:Int} (h0:0≤m) (h1:m<9223372036854775808):0≤ya .and a m∧ya .and a m≤m:=by
  unfold ya
  dsimp only
  have hle:(BitVec.ofInt 64 a&&&BitVec.ofInt 64 m).toNat≤(BitVec.ofInt 64 m).toNat:=by
    rw [BitVec.toNat_and];exact Nat.and_le_right
  have hm:((BitVec.ofInt 64 m).toNat:Int)=m:=by
    rw [BitVec.toNat_ofInt]
    have:(2^64:Nat)=18446744073709551616:=by decide
    rw [this]
    omega
  rw [xz _ (by unfold yh;omega)]
  omega
theorem ibits_or {a b:Nat} (ha:a<9223372036854775808) (hb:b<9223372036854775808) (h:a|||b<9223372036854775808):ya .or (a:Int) (b:Int)=((a|||b:Nat):Int):=by
  unfold ya
  dsimp only
  have e:(2^64:Nat)=18446744073709551616:=by decide
  have e1:(BitVec.ofInt 64 (a:Int)).toNat=a:=by rw [BitVec.toNat_ofInt,e];omega
  have e2:(BitVec.ofInt 64 (b:Int)).toNat=b:=by rw [BitVec.toNat_ofInt,e];omega
  rw [BitVec.toNat_or,e1,e2,xz _ (by unfold yh;omega)]
end Go.Sym.Ib

namespace Go.Sym.A
open Go Go.Proofs.Try Go.Sym.Lp Go.Sym.Cha Go.Sym.Sha Go.Sym.Hk
set_option maxRecDepth 100000
attribute [local irreducible] xw KC HB za1 wrH wrR zhm zdj bk kN pdX dgF mP x9
def z56:List (Nat×List PStep):= []
def z6h:List (Nat×List PStep):= []
def z7n:List (Nat×List PStep):= []
def z7c:List (Nat×List PStep):= []
def z6x:List (Nat×List PStep):= []
def z5z:Spec:=fun args hp K=>match args,hp with
  | [.int x,.int 1],[]=>K (.str [UInt8.ofInt x]) []
  |_,_=>False
theorem z5c:zp prog 104 z5z:=by
  refine zo zb5 zk rfl func104 rfl call104 (D:=z3l) ?_ ?_
  ·intro args hp K h
   unfold z5z at h
   split at h
   ·exact Nat.le_of_ble_eq_true rfl
   ·exact h.elim
  ·intro args hp K h
   unfold z5z at h
   split at h
   ·rename_i x
    refine wk ?_
    refine yq fun t1=>?_
    rw [zhw]
    refine wk ?_
    exact ze (hp':= []) [] h
   ·exact h.elim
def zpv:Spec:=fun args hp K=>match args,hp with
  | [.str s,.int 1],[]=>Pre (s.length≤255) (K (.tup [.str (UInt8.ofInt (s.length:Int) ::s),.int 0]) [])
  |_,_=>False
theorem zyw:zp prog 127 zpv:=by
  refine zo zb5 (zd z5c zk) rfl func127 rfl call127 (D:=z56) ?_ ?_
  ·intro args hp K h
   unfold zpv at h
   split at h
   ·exact Nat.le_of_ble_eq_true rfl
   ·exact h.elim
  ·intro args hp K h
   unfold zpv at h
   split at h
   ·rename_i s
    obtain ⟨hs,h⟩:=zl h
    have hd:decide ((s.length:Int)/ 2^(8*(1:Int)).toNat=0)=true:=decide_eq_true (by show (s.length:Int)/ 256=0;omega)
    repeat ((conv=>whnf);first|refine zn ?_|refine zf ?_|refine zg ?_|refine za ?_|refine zq (by first|exact hd|(rw [hd];rfl)) ?_|refine zi (by first|exact hd|(rw [hd];rfl)) ?_|refine zj (by first|exact hd|(rw [hd];rfl)) ?_)
    conv=>whnf
    exact ze (hp':= []) [] h
   ·exact h.elim
def zi4 (s:List UInt8) (a:Nat):Nat→Nat
  |0=>0
  |i+1=>256*zi4 s a i+(s.getD (a+i) 0).toNat
def znt:Spec:=fun args hp K=>match args,hp with
  | [.str s,.int a,.int 2],[]=>Pre (0≤a∧a+2≤(s.length:Int)∧s.length<9223372036854775808) (K (.tup [.int (256*((s.getD a.toNat 0).toNat:Int)+((s.getD (a.toNat+1) 0).toNat:Int)),.int (a+2),.int 0]) [])
  |_,_=>False
theorem zzv:zp prog 124 znt:=by
  refine zo zb5 zk rfl func124 rfl call124 (D:=z6h) ?_ ?_
  ·intro args hp K h
   unfold znt at h
   split at h
   ·exact Nat.le_of_ble_eq_true rfl
   ·exact h.elim
  ·intro args hp K h
   unfold znt at h
   split at h
   ·rename_i s a
    obtain ⟨⟨ha,hl,hs⟩,h⟩:=zl h
    refine wk ?_
    refine zt (Ix (2)) (fun q=>⟨[(0,.str s),(1,.int a),(2,.int 2),(9,.int (zi4 s a.toNat q.i:Nat)),(27,.int 2),(28,.int q.i)],[]⟩) (fun q=>(2)-q.i) ⟨0,Nat.zero_le _⟩ [] ?_ ?_
    ·repeat ((conv=>whnf);refine za ?_)
     exact trivial
    ·intro q
     have hi:=q.hi
     have hI:(a+(q.i:Int)).toNat=a.toNat+q.i:=by omega
     by_cases h4:q.i<2
     ·have hb:zi4 s a.toNat q.i<256:=by
        have:q.i=0∨q.i=1:=by omega
        rcases this with e|e<;>rw [e]
        ·exact Nat.zero_lt_succ _
        ·simp only [zi4];rw [Nat.mul_zero,Nat.zero_add];exact UInt8.toNat_lt _
      have hsh:(UInt64.ofNat 8).toNat<64∧yh (((zi4 s a.toNat q.i:Nat):Int)*2^(UInt64.ofNat 8).toNat):=⟨by decide,by show yh (((zi4 s a.toNat q.i:Nat):Int)*256);unfold yh;omega⟩
      have hor:ya .or (((zi4 s a.toNat q.i:Nat):Int)*2^(UInt64.ofNat 8).toNat) (((s.getD (a.toNat+q.i) 0).toNat:Nat):Int)=((zi4 s a.toNat (q.i+1):Nat):Int):=by
        have hc:=UInt8.toNat_lt (s.getD (a.toNat+q.i) 0)
        have e:=Nat.two_pow_add_eq_or_of_lt (i:=8) hc (zi4 s a.toNat q.i)
        have e2:(((zi4 s a.toNat q.i:Nat):Int)*2^(UInt64.ofNat 8).toNat)=((2^8*zi4 s a.toNat q.i:Nat):Int):=by show _*(256:Int)=((256*_:Nat):Int);omega
        rw [e2,Go.Sym.Ib.ibits_or (by omega) (by omega) (by rw [←e];omega),←e]
        rfl
      refine wk ?_
      conv=>whnf
      refine ⟨⟨q.i+1,h4⟩,[],by show (2)-(q.i+1)<(2)-q.i;omega,?_⟩
      repeat ((conv=>whnf);refine za ?_)
      conv=>whnf
      refine zh (congrArg SV.int (by rw [←hor,←hI])) ?_
      repeat ((conv=>whnf);refine za ?_)
      exact trivial
     ·have e4:q.i=2:=by omega
      have e5:((zi4 s a.toNat 2:Nat):Int)=256*((s.getD a.toNat 0).toNat:Int)+((s.getD (a.toNat+1) 0).toNat:Int):=by
        simp only [zi4];rw [Nat.mul_zero,Nat.zero_add,Nat.add_zero];omega
      rw [←e5] at h
      rw [e4]
      refine wk ?_
      exact ze (hp':= []) [] h
   ·exact h.elim
def z3y:Spec:=fun args hp K=>match args,hp with
  | [.str s,.int a],[]=>Pre (0≤a∧a+2≤(s.length:Int)∧s.length<9223372036854775808) (K (.tup [.int (256*((s.getD a.toNat 0).toNat:Int)+((s.getD (a.toNat+1) 0).toNat:Int)),.int (a+2),.int 0]) [])
  |_,_=>False
theorem z68:zp prog 107 z3y:=by
  refine zo zb5 (zd zzv zk) rfl func107 rfl call107 (D:=z7n) ?_ ?_
  ·intro args hp K h
   unfold z3y at h
   split at h
   ·exact Nat.le_of_ble_eq_true rfl
   ·exact h.elim
  ·intro args hp K h
   unfold z3y at h
   split at h
   ·rename_i s a
    obtain ⟨hp,h⟩:=zl h
    refine wk ?_
    exact ze (hp':= []) [] h
   ·exact h.elim
def zp7:Spec:=fun args hp K=>match args,hp with
  | [.int n,.str key,.str info,.int size],[]=>Pre ((n=256∨n=384)∧key.length≤140737488351232∧info.length≤1000∧0≤size∧size≤1000) (K (.tup [.str (exF n key info size.toNat),.int 0]) [])
  |_,_=>False
set_option maxHeartbeats 4000000 in
theorem zx3:zp prog 128 zp7:=by
  refine zo zb5 (zd zzk (zd z1p zk)) rfl func128 rfl call128 (D:=z7c) ?_ ?_
  ·intro args hp K h
   unfold zp7 at h
   split at h
   ·exact Nat.le_of_ble_eq_true rfl
   ·exact h.elim
  ·intro args hp K h
   unfold zp7 at h
   split at h
   ·rename_i n key info size
    obtain ⟨⟨hn,hk,hi,hs0,hs⟩,h⟩:=zl h
    obtain ⟨z,rfl⟩:=Int.eq_ofNat_of_zero_le hs0
    rw [Int.toNat_natCast] at h
    have hd:=decide_eq_true hn
    have h8:(8:Int)≠0∧yh ((255*n).tdiv 8):=by rcases hn with rfl|rfl<;>exact ⟨by decide,by unfold yh;decide⟩
    have hmx:8160≤(255*n).tdiv 8:=by rcases hn with rfl|rfl<;>decide
    have hfit:yh (255*n):=by rcases hn with rfl|rfl<;>(unfold yh;decide)
    have hm1:=zzp n key 54
    have hm2:=zzp n key 92
    repeat ((conv=>whnf);first|refine zn ?_|refine zf ?_|refine zg ?_|refine za ?_|refine zq (by first|exact hd) ?_|refine zi (by first|exact hd) ?_|refine zj (by first|exact hd) ?_)
    conv=>whnf
    obtain ⟨d,hdl,hd0⟩: ∃d,dl n=d∧(d=32∨d=48):=⟨_,rfl,by unfold dl;split<;>simp⟩
    have hF:exF n key info z=(x9 n key info ((z+d-1)/ d)).1.take z:=by unfold exF;rw [hdl]
    rw [hF] at h
    refine zt (Ix (((z+d-1)/ d))) (fun q=>⟨[(0,.int n),(2,.str info),(3,.int z),(10,.ptr 2 0 0 []),(12,.str (x9 n key info q.i).1),(13,.str (x9 n key info q.i).2),(14,.int ((q.i:Int)+1))],[.mk 198 [.int n,.arr64 8 (mP n key 54),.arr64 80 KC,.nilsl,.u64 (UInt64.ofNat (bk n))],.mk 198 [.int n,.arr64 8 (mP n key 92),.arr64 80 KC,.nilsl,.u64 (UInt64.ofNat (bk n))],.mk 185 [.ptr 0 0 0 [],.ptr 1 0 0 []]]⟩) (fun q=>(((z+d-1)/ d))-q.i) ⟨0,Nat.zero_le _⟩ [0,1,2] ?_ ?_
    ·repeat ((conv=>whnf);refine za ?_)
     conv=>whnf
     refine zh (congrArg (fun x:List UInt8×List UInt8=>SV.str x.1) (show (([],[]):List UInt8×List UInt8)=x9 n key info 0 by unfold x9;rfl)) ?_
     repeat ((conv=>whnf);refine za ?_)
     conv=>whnf
     refine zh (congrArg (fun x:List UInt8×List UInt8=>SV.str x.2) (show (([],[]):List UInt8×List UInt8)=x9 n key info 0 by unfold x9;rfl)) ?_
     repeat ((conv=>whnf);refine za ?_)
     exact trivial
    ·intro q
     have hqi:=q.hi
     obtain ⟨hel,hel2⟩:=zk4 hn key info q.i
     rw [hdl] at hel
     rcases hd0 with hd0|hd0
     ·subst hd0
      by_cases h4:q.i<(z+32-1)/ 32
      ·have hXl:((x9 n key info q.i).2++info++List.take 1 (List.drop (off []) ((List.replicate 1 0).set (off [(0,ty5.sz)]) (UInt8.ofInt ((q.i:Int)+1))))).length≤1073741824:=by rw [zhw,List.length_append,List.length_append];show _+_+1≤_;omega
       have hpm:(n=256∨n=384)∧n=n∧198=198∧198=198∧KC=KC∧KC=KC∧UInt64.ofNat (bk n)=UInt64.ofNat (bk n)∧UInt64.ofNat (bk n)=UInt64.ofNat (bk n)∧(mP n key 54).length=8∧(mP n key 92).length=8∧((x9 n key info q.i).2++info++List.take 1 (List.drop (off []) ((List.replicate 1 0).set (off [(0,ty5.sz)]) (UInt8.ofInt ((q.i:Int)+1))))).length≤1073741824:=⟨hn,rfl,rfl,rfl,rfl,rfl,rfl,rfl,hm1,hm2,hXl⟩
       have hml:=zog hn (mP n key 92) (dgF n (mP n key 54) ((x9 n key info q.i).2++info++List.take 1 (List.drop (off []) ((List.replicate 1 0).set (off [(0,ty5.sz)]) (UInt8.ofInt ((q.i:Int)+1))))))
       rw [hdl] at hml
       have hE1:(x9 n key info q.i).1++dgF n (mP n key 92) (dgF n (mP n key 54) ((x9 n key info q.i).2++info++List.take 1 (List.drop (off []) ((List.replicate 1 0).set (off [(0,ty5.sz)]) (UInt8.ofInt ((q.i:Int)+1))))))=(x9 n key info (q.i+1)).1:=by simp only [x9];rw [zhw];rfl
       have hE2:dgF n (mP n key 92) (dgF n (mP n key 54) ((x9 n key info q.i).2++info++List.take 1 (List.drop (off []) ((List.replicate 1 0).set (off [(0,ty5.sz)]) (UInt8.ofInt ((q.i:Int)+1))))))=(x9 n key info (q.i+1)).2:=by simp only [x9];rw [zhw];rfl
       refine wk ?_
       conv=>whnf
       refine ⟨⟨q.i+1,h4⟩,[0,1,2],by show (((z+32-1)/ 32))-(q.i+1)<(((z+32-1)/ 32))-q.i;omega,?_⟩
       repeat ((conv=>whnf);refine za ?_)
       conv=>whnf
       refine zh (congrArg SV.str hE1) ?_
       repeat ((conv=>whnf);refine za ?_)
       conv=>whnf
       refine zh (congrArg SV.str hE2) ?_
       repeat ((conv=>whnf);refine za ?_)
       exact trivial
      ·have e4:q.i=(z+32-1)/ 32:=by omega
       rw [←e4] at h
       refine wk ?_
       exact ze (hp':= []) [] h
     ·subst hd0
      by_cases h4:q.i<(z+48-1)/ 48
      ·have hXl:((x9 n key info q.i).2++info++List.take 1 (List.drop (off []) ((List.replicate 1 0).set (off [(0,ty5.sz)]) (UInt8.ofInt ((q.i:Int)+1))))).length≤1073741824:=by rw [zhw,List.length_append,List.length_append];show _+_+1≤_;omega
       have hpm:(n=256∨n=384)∧n=n∧198=198∧198=198∧KC=KC∧KC=KC∧UInt64.ofNat (bk n)=UInt64.ofNat (bk n)∧UInt64.ofNat (bk n)=UInt64.ofNat (bk n)∧(mP n key 54).length=8∧(mP n key 92).length=8∧((x9 n key info q.i).2++info++List.take 1 (List.drop (off []) ((List.replicate 1 0).set (off [(0,ty5.sz)]) (UInt8.ofInt ((q.i:Int)+1))))).length≤1073741824:=⟨hn,rfl,rfl,rfl,rfl,rfl,rfl,rfl,hm1,hm2,hXl⟩
       have hml:=zog hn (mP n key 92) (dgF n (mP n key 54) ((x9 n key info q.i).2++info++List.take 1 (List.drop (off []) ((List.replicate 1 0).set (off [(0,ty5.sz)]) (UInt8.ofInt ((q.i:Int)+1))))))
       rw [hdl] at hml
       have hE1:(x9 n key info q.i).1++dgF n (mP n key 92) (dgF n (mP n key 54) ((x9 n key info q.i).2++info++List.take 1 (List.drop (off []) ((List.replicate 1 0).set (off [(0,ty5.sz)]) (UInt8.ofInt ((q.i:Int)+1))))))=(x9 n key info (q.i+1)).1:=by simp only [x9];rw [zhw];rfl
       have hE2:dgF n (mP n key 92) (dgF n (mP n key 54) ((x9 n key info q.i).2++info++List.take 1 (List.drop (off []) ((List.replicate 1 0).set (off [(0,ty5.sz)]) (UInt8.ofInt ((q.i:Int)+1))))))=(x9 n key info (q.i+1)).2:=by simp only [x9];rw [zhw];rfl
       refine wk ?_
       conv=>whnf
       refine ⟨⟨q.i+1,h4⟩,[0,1,2],by show (((z+48-1)/ 48))-(q.i+1)<(((z+48-1)/ 48))-q.i;omega,?_⟩
       repeat ((conv=>whnf);refine za ?_)
       conv=>whnf
       refine zh (congrArg SV.str hE1) ?_
       repeat ((conv=>whnf);refine za ?_)
       conv=>whnf
       refine zh (congrArg SV.str hE2) ?_
       repeat ((conv=>whnf);refine za ?_)
       exact trivial
      ·have e4:q.i=(z+48-1)/ 48:=by omega
       rw [←e4] at h
       refine wk ?_
       exact ze (hp':= []) [] h
   ·exact h.elim
def zb8 (n:Int) (key label ctx:List UInt8) (size:Nat):List UInt8:=
  exF n key ([UInt8.ofInt ((size:Int)/ 2^8),UInt8.ofInt (size:Int)]++(UInt8.ofInt ((([116,108,115,49,51,32]++label:List UInt8).length:Nat):Int) ::([116,108,115,49,51,32]++label))++(UInt8.ofInt (ctx.length:Int) ::ctx)) size
theorem zp8 {n:Int} (hn:n=256∨n=384) (key label ctx:List UInt8) (size:Nat):(zb8 n key label ctx size).length=size:=z1m hn _ _ _
def zr1:Spec:=fun args hp K=>match args,hp with
  | [.int n,.str key,.str label,.str ctx,.int size],[]=>Pre ((n=256∨n=384)∧key.length≤140737488351232∧label.length≤100∧ctx.length≤255∧0≤size∧size≤1000) (K (.tup [.str (zb8 n key label ctx size.toNat),.int 0]) [])
  |_,_=>False
theorem z2h:zp prog 123 zr1:=by
  refine zo zb5 (zd zme (zd zyw (zd zx3 zk))) rfl func123 rfl call123 (D:=z6x) ?_ ?_
  ·intro args hp K h
   unfold zr1 at h
   split at h
   ·exact Nat.le_of_ble_eq_true rfl
   ·exact h.elim
  ·intro args hp K h
   unfold zr1 at h
   split at h
   ·rename_i n key label ctx size
    obtain ⟨⟨hn,hk,hl,hc,hs0,hs⟩,h⟩:=zl h
    obtain ⟨z,rfl⟩:=Int.eq_ofNat_of_zero_le hs0
    rw [Int.toNat_natCast] at h
    have hIl:([UInt8.ofInt ((z:Int)/ 2^8),UInt8.ofInt (z:Int)]++(UInt8.ofInt ((([116,108,115,49,51,32]++label:List UInt8).length:Nat):Int) ::([116,108,115,49,51,32]++label))++(UInt8.ofInt (ctx.length:Int) ::ctx)).length≤1000:=by simp only [List.length_append,List.length_cons,List.length_nil];omega
    have hpx:(n=256∨n=384)∧key.length≤140737488351232∧([UInt8.ofInt ((z:Int)/ 2^8),UInt8.ofInt (z:Int)]++(UInt8.ofInt ((([116,108,115,49,51,32]++label:List UInt8).length:Nat):Int) ::([116,108,115,49,51,32]++label))++(UInt8.ofInt (ctx.length:Int) ::ctx)).length≤1000∧0≤(z:Int)∧(z:Int)≤1000:=⟨hn,hk,hIl,hs0,hs⟩
    unfold zb8 at h
    have hll:(([116,108,115,49,51,32]++label:List UInt8)).length≤255:=by simp only [List.length_append,List.length_cons,List.length_nil];omega
    refine wk ?_
    rw [if_neg (by decide)]
    refine wk ?_
    conv=>whnf
    exact ze (hp':= []) [] h
   ·exact h.elim
end Go.Sym.A

namespace Go.Sym.A
open Go Go.Proofs.Try Go.Sym.Lp Go.Sym.Cha Go.Sym.Sha Go.Sym.Hk
set_option maxRecDepth 100000
attribute [local irreducible] zb8 exF
def z7o:List (Nat×List PStep):= []
def z6r:List (Nat×List PStep):= []
def z8o:List (Nat×List PStep):= []
def z8j:List (Nat×List PStep):= []
def z88:List (Nat×List PStep):= [(5,[⟨0,[]⟩,⟨1,[0]⟩,⟨2,[0]⟩,⟨3,[0]⟩,⟨4,[0,1,2,3]⟩,⟨5,[0]⟩,⟨6,[]⟩,⟨7,[]⟩,⟨8,[0,1,2,3,4,5,6,7]⟩,⟨9,[0,1,2,3,4,5,6,7]⟩,⟨10,[0,1,2,3,4,5,6,7]⟩,⟨11,[0,1,2,3,4,5,6,7]⟩,⟨12,[0,1,2,3,4,5,6,7,8,9,10,11]⟩,⟨13,[0,1,2,3,4,5,6,7,8,9,10,11]⟩,⟨14,[0,1,2,3,4,5,6,7]⟩,⟨15,[0,1,2,3,4,5,6,7]⟩,⟨16,[]⟩,⟨17,[]⟩,⟨18,[]⟩])]
def z8i:List (Nat×List PStep):= []
def zl3:List (Nat×TyI):= [(3,ty3),(4,ty4),(5,ty5),(9,ty9),(34,zdh),(35,zdd),(93,zb7),(91,x4),(130,zdp),(82,zh7),(84,zid),(134,zdu),(88,zh9),(43,ziq),(50,zec)]
theorem yi: ∀t i,yw zl3 t=some i→yp prog t i:=(zc ty3_ok (zc zc3 (zc zcz (zc ty9_ok (zc zbh (zc zbl (zc zcx (zc zcy (zc zlk (zc zo7 (zc zo1 (zc zkb (zc zod (zc znu (zc zpw zao)))))))))))))))
def su (w:Int):Prop:=w=4865∨w=4866∨w=4867
instance (w:Int):Decidable (su w):=by unfold su;exact inferInstance
def hB (w:Int):Int:=if w=4866 then 384 else 256
theorem zxk (w:Int):hB w=256∨hB w=384:=by unfold hB;split<;>simp
def zxu:Spec:=fun args hp K=>match args,hp with
  | [.int w],[]=>zr (decide (su w)) (K (.tup [.int (hB w),.int 0]) []) (K (.tup [.int 0,.int 1900]) [])
  |_,_=>False
theorem z1r:zp prog 122 zxu:=by
  refine zo yi (zd zoc zk) rfl func122 rfl call122 (D:=z7o) ?_ ?_
  ·intro args hp K h
   unfold zxu at h
   split at h
   ·exact Nat.le_of_ble_eq_true rfl
   ·exact h.elim
  ·intro args hp K h
   unfold zxu at h
   split at h
   ·rename_i w
    obtain ⟨ht,hf⟩:=zu h
    have four:w=4865∨w=4866∨w=4867∨(w≠4865∧w≠4866∧w≠4867):=by omega
    rcases four with h0|h0|h0|⟨h0,h1,h2⟩
    ·have h:=ht (decide_eq_true (.inl h0))
     rw [show hB w=256 by unfold hB;rw [if_neg (by omega)]] at h
     refine wk ?_
     exact ze (hp':= []) [] h
    ·have h:=ht (decide_eq_true (.inr (.inl h0)))
     rw [show hB w=384 by unfold hB;rw [if_pos h0]] at h
     refine wk ?_
     exact ze (hp':= []) [] h
    ·have h:=ht (decide_eq_true (.inr (.inr h0)))
     rw [show hB w=256 by unfold hB;rw [if_neg (by omega)]] at h
     refine wk ?_
     exact ze (hp':= []) [] h
    ·have h:=hf (decide_eq_false (by unfold su;omega))
     refine wk ?_
     exact ze (hp':= []) [] h
   ·exact h.elim
def zpx:Spec:=fun args hp K=>match args,hp with
  | [.int w,.str key,.str label,.str ctx,.int size],[]=>Pre (key.length≤140737488351232∧label.length≤100∧ctx.length≤255∧0≤size∧size≤1000)
      (zr (decide (su w)) (K (.tup [.str (zb8 (hB w) key label ctx size.toNat),.int 0]) []) (K (.tup [.str [],.int 1900]) []))
  |_,_=>False
theorem zz0:zp prog 106 zpx:=by
  refine zo yi (zd z1r (zd z2h zk)) rfl func106 rfl call106 (D:=z6r) ?_ ?_
  ·intro args hp K h
   unfold zpx at h
   split at h
   ·exact Nat.le_of_ble_eq_true rfl
   ·exact h.elim
  ·intro args hp K h
   unfold zpx at h
   split at h
   ·rename_i w key label ctx size
    obtain ⟨⟨hk,hl,hc,hs0,hs⟩,h⟩:=zl h
    obtain ⟨ht,hf⟩:=zu h
    have hp:(hB w=256∨hB w=384)∧key.length≤140737488351232∧label.length≤100∧ctx.length≤255∧0≤size∧size≤1000:=⟨zxk w,hk,hl,hc,hs0,hs⟩
    generalize e:decide (su w)=c at ht hf
    cases c
    ·have h:=hf rfl
     refine wk ?_
     exact ze (hp':= []) [] h
    ·have h:=ht rfl
     refine wk ?_
     exact ze (hp':= []) [] h
   ·exact h.elim
def aSz (w:Int):Nat:=if w=4865 then 16 else 32
def kyF (w:Int) (s:List UInt8):List UInt8:=zb8 (hB w) s [107,101,121] [] (aSz w)
def ivF (w:Int) (s:List UInt8):List UInt8:=zb8 (hB w) s [105,118] [] 12
theorem zfy (w:Int) (s:List UInt8):(kyF w s).length=aSz w:=zp8 (zxk w) _ _ _ _
theorem zf5 (w:Int) (s:List UInt8):(ivF w s).length=12:=zp8 (zxk w) _ _ _ _
def zzl:Spec:=fun args hp K=>match args,hp with
  | [.int w,.str s],[]=>Pre (s.length≤140737488351232)
      (zr (decide (su w)) (K (.tup [.str (kyF w s),.str (ivF w s),.int 0]) []) (K (.tup [.str [],.str [],.int 1900]) []))
  |_,_=>False
theorem z37:zp prog 81 zzl:=by
  refine zo yi (zd zoc (zd zz0 zk)) rfl func81 rfl call81 (D:=z8o) ?_ ?_
  ·intro args hp K h
   unfold zzl at h
   split at h
   ·exact Nat.le_of_ble_eq_true rfl
   ·exact h.elim
  ·intro args hp K h
   unfold zzl at h
   split at h
   ·rename_i w s
    obtain ⟨hs,h⟩:=zl h
    obtain ⟨ht,hf⟩:=zu h
    have four:w=4865∨w=4866∨w=4867∨(w≠4865∧w≠4866∧w≠4867):=by omega
    rcases four with h0|h0|h0|⟨h0,h1,h2⟩
    ·have hd:decide (su w)=true:=decide_eq_true (.inl h0)
     have h:=ht hd
     rw [show kyF w s=zb8 (hB w) s [107,101,121] [] (Int.toNat 16) by unfold kyF aSz;rw [if_pos h0];rfl,show ivF w s=zb8 (hB w) s [105,118] [] (Int.toNat 12) by unfold ivF;rfl] at h
     refine wk ?_
     exact ze (hp':= []) [] h
    ·have hd:decide (su w)=true:=decide_eq_true (.inr (.inl h0))
     have h:=ht hd
     rw [show kyF w s=zb8 (hB w) s [107,101,121] [] (Int.toNat 32) by unfold kyF aSz;rw [if_neg (by omega)];rfl,show ivF w s=zb8 (hB w) s [105,118] [] (Int.toNat 12) by unfold ivF;rfl] at h
     refine wk ?_
     exact ze (hp':= []) [] h
    ·have hd:decide (su w)=true:=decide_eq_true (.inr (.inr h0))
     have h:=ht hd
     rw [show kyF w s=zb8 (hB w) s [107,101,121] [] (Int.toNat 32) by unfold kyF aSz;rw [if_neg (by omega)];rfl,show ivF w s=zb8 (hB w) s [105,118] [] (Int.toNat 12) by unfold ivF;rfl] at h
     refine wk ?_
     exact ze (hp':= []) [] h
    ·have hd:decide (su w)=false:=decide_eq_false (by unfold su;omega)
     have h:=hf hd
     refine wk ?_
     exact ze (hp':= []) [] h
   ·exact h.elim
attribute [local irreducible] kyF ivF
def zkw:Spec:=fun args hp K=>match args,hp with
  | [.int w,.str s],[]=>Pre (s.length≤140737488351232)
      (zr (decide (su w)) (K (.tup [.ptr 0 0 0 [],.int 0]) [.mk 130 [.int w,.str (kyF w s),.str (ivF w s),.int 0]]) (K (.tup [.nilptr,.int 2100]) []))
  |_,_=>False
theorem zmp:zp prog 54 zkw:=by
  refine zo yi (zd z37 zk) rfl func54 rfl call54 (D:=z8j) ?_ ?_
  ·intro args hp K h
   unfold zkw at h
   split at h
   ·exact Nat.le_of_ble_eq_true rfl
   ·exact h.elim
  ·intro args hp K h
   unfold zkw at h
   split at h
   ·rename_i w s
    obtain ⟨hs,h⟩:=zl h
    obtain ⟨ht,hf⟩:=zu h
    generalize e:decide (su w)=c at ht hf
    cases c
    ·have h:=hf rfl
     refine wk ?_
     exact ze (hp':= []) [] h
    ·have h:=ht rfl
     refine wk ?_
     exact ze (hp':= [.mk 130 [.int w,.str (kyF w s),.str (ivF w s),.int 0]]) [0] h
   ·exact h.elim
def zw (k:Int):Prop:=k=20∨k=21∨k=22∨k=23
instance (k:Int):Decidable (zw k):=by unfold zw;exact inferInstance
def zr0:Spec:=fun args hp K=>match args,hp with
  | [.int k],[]=>K (.bool (decide (zw k))) []
  |_,_=>False
theorem zt5:zp prog 84 zr0:=by
  refine zo yi zk rfl func84 rfl call84 (D:=z8i) ?_ ?_
  ·intro args hp K h
   unfold zr0 at h
   split at h
   ·exact Nat.le_of_ble_eq_true rfl
   ·exact h.elim
  ·intro args hp K h
   unfold zr0 at h
   split at h
   ·rename_i k
    have z59:k=20∨k=21∨k=22∨k=23∨(k≠20∧k≠21∧k≠22∧k≠23):=by omega
    rcases z59 with h0|h0|h0|h0|⟨h0,h1,h2,h3⟩
    ·rw [decide_eq_true (show zw k by unfold zw;omega)] at h
     refine wk ?_
     exact ze (hp':= []) [] h
    ·rw [decide_eq_true (show zw k by unfold zw;omega)] at h
     refine wk ?_
     exact ze (hp':= []) [] h
    ·rw [decide_eq_true (show zw k by unfold zw;omega)] at h
     refine wk ?_
     exact ze (hp':= []) [] h
    ·rw [decide_eq_true (show zw k by unfold zw;omega)] at h
     refine wk ?_
     exact ze (hp':= []) [] h
    ·rw [decide_eq_false (show ¬zw k by unfold zw;omega)] at h
     refine wk ?_
     exact ze (hp':= []) [] h
   ·exact h.elim
def zl5 (iv:List UInt8) (many:Int):Nat→List UInt8
  |0=>iv
  |i+1=>(zl5 iv many i).set (12-1-i) ((zl5 iv many i).getD (12-1-i) 0^^^UInt8.ofInt (many/ 2^(8*i)))
theorem zh4 (iv:List UInt8) (many:Int): ∀i,(zl5 iv many i).length=iv.length
  |0=>rfl
  |i+1=>by simp only [zl5,List.length_set];exact zh4 iv many i
def ncF (iv:List UInt8) (many:Int):List UInt8:=zl5 iv many 8
theorem zn2 (iv:List UInt8) (many:Int):(ncF iv many).length=iv.length:=zh4 _ _ _
def zta:Spec:=fun args hp K=>match args,hp with
  | [.ptr 0 0 0 []],[.mk t [.int w,.str key,.str iv,.int many]]=>Pre (iv.length=12) (K (.str (ncF iv many)) [.mk t [.int w,.str key,.str iv,.int many]])
  |_,_=>False
theorem zvf:zp prog 87 zta:=by
  refine zo yi zk rfl func87 rfl call87 (D:=z88) ?_ ?_
  ·intro args hp K h
   unfold zta at h
   split at h
   ·exact Nat.le_of_ble_eq_true rfl
   ·exact h.elim
  ·intro args hp K h
   unfold zta at h
   split at h
   ·rename_i t w key iv many
    obtain ⟨hiv,h⟩:=zl h
    refine wk ?_
    refine yq fun tl=>?_
    refine wk ?_
    refine zt (Ix (8)) (fun q=>⟨[(3,.sl 1 0 0 [] iv.length (iv.length+tl.length)),(10,.int q.i),(0,.ptr 0 0 0 [])],[.mk t [.int w,.str key,.str iv,.int many],.mk 5 [.arr8 (iv.length+tl.length) (zl5 iv many q.i++tl)]]⟩) (fun q=>(8)-q.i) ⟨0,Nat.zero_le _⟩ [0,1] ?_ ?_
    ·repeat ((conv=>whnf);refine za ?_)
     exact trivial
    ·intro q
     have hi:=q.hi
     have hl:=zh4 iv many q.i
     rw [hiv] at hl
     have hla:(zl5 iv many q.i++tl).length=12+tl.length:=by rw [List.length_append,hl]
     have hof:off (yc [] ((iv.length:Int)-1-(q.i:Int)).toNat ty5.sz)=12-1-q.i:=by rw [zv];show 0+((iv.length:Int)-1-(q.i:Int)).toNat*1=_;omega
     have hk:(8*(q.i:Int)).toNat=8*q.i:=by omega
     by_cases h4:q.i<8
     ·refine wk ?_
      refine ⟨⟨q.i+1,h4⟩,[0,1],by show (8)-(q.i+1)<(8)-q.i;omega,?_⟩
      repeat ((conv=>whnf);refine za ?_)
      conv=>whnf
      refine zh (congrArg (fun x=>SV.agg [SV.arr8 (iv.length+tl.length) x]) (show _=zl5 iv many (q.i+1)++tl by simp only [zl5];rw [hof,hk,List.set_append_left _ _ (by omega),List.getD_eq_getElem?_getD,List.getElem?_append_left (by omega),←List.getD_eq_getElem?_getD])) ?_
      repeat ((conv=>whnf);refine za ?_)
      exact trivial
     ·have e4:q.i=8:=by omega
      have hF:List.take iv.length (List.drop (off []) (zl5 iv many 8++tl))=ncF iv many:=List.take_left' (zh4 iv many 8)
      rw [e4] at hla
      have hpo:off []+iv.length≤(zl5 iv many 8++tl).length:=by rw [hla,hiv];show 0+12≤_;omega
      rw [e4]
      refine wk ?_
      rw [hF]
      conv=>whnf
      exact ze (hp':= [.mk t [.int w,.str key,.str iv,.int many]]) [0] h
   ·exact h.elim
end Go.Sym.A

namespace Go.Sym.A
open Go Go.Proofs.Try Go.Sym.Lp Go.Sym.Cha Go.Sym.Sha Go.Sym.Hk
set_option maxRecDepth 100000
attribute [local irreducible] zb8 exF kyF ivF
def z8a:List (Nat×List PStep):= [(3,[⟨0,[]⟩,⟨1,[0]⟩,⟨2,[0]⟩,⟨3,[0]⟩,⟨4,[0]⟩,⟨5,[]⟩,⟨6,[]⟩,⟨7,[0,1,2,3,4,5,6]⟩,⟨8,[0,1,2,3,4,5,6]⟩,⟨9,[0,1,2,3,4,5,6]⟩,⟨10,[0,1,2,3,4,5,6]⟩,⟨11,[]⟩,⟨12,[0,1,2,3,4,5,6,7,8,9,10,11]⟩,⟨13,[0,1,2,3,4,5,6,7,8,9,10,11]⟩,⟨14,[0,1,2,3,4,5,6,7,8,9,10,11]⟩,⟨15,[0,1,2,3,4,5,6,7,8,9,10,11]⟩,⟨16,[]⟩,⟨17,[]⟩,⟨18,[]⟩])]
def z9l:List (Nat×List PStep):= [(1,[⟨0,[]⟩,⟨1,[]⟩,⟨2,[]⟩,⟨3,[]⟩,⟨6,[0,1,2,3]⟩,⟨4,[0,1,2,3,6]⟩,⟨5,[6]⟩,⟨7,[0,1,2,3,5]⟩,⟨8,[]⟩,⟨9,[]⟩])]
def z9v:List (Nat×List PStep):= []
def z83:List (Nat×List PStep):= []
def z9i:List (Nat×List PStep):= []
def z8u:List (Nat×List PStep):= []
def z78:List (Nat×List PStep):= []
def z73:List (Nat×List PStep):= []
def z9a:List (Nat×List PStep):= []
def z84:List (Nat×List PStep):= []
def hdF (kind n:Int):List UInt8:= [UInt8.ofInt kind,3,3,UInt8.ofInt (n/ 2^8),UInt8.ofInt n]
def zs7:Spec:=fun args hp K=>match args,hp with
  | [.int kind,.int n],[]=>K (.str (hdF kind n)) []
  |_,_=>False
theorem z26:zp prog 85 zs7:=by
  refine zo yi (zd zme zk) rfl func85 rfl call85 (D:=z9l) ?_ ?_
  ·intro args hp K h
   unfold zs7 at h
   split at h
   ·exact Nat.le_of_ble_eq_true rfl
   ·exact h.elim
  ·intro args hp K h
   unfold zs7 at h
   split at h
   ·rename_i kind n
    refine wk ?_
    rw [zhw,if_neg (by decide)]
    refine wk ?_
    rw [if_neg (by decide)]
    refine wk ?_
    conv=>whnf
    exact ze (hp':= []) [] h
   ·exact h.elim
def zgl:Spec:=fun args hp K=>match args,hp with
  | [.int p],[]=>K (.tup [.agg [.int p,.nilptr],.bool (decide (0≤p∧p≤16384))]) []
  |_,_=>False
theorem zqz:zp prog 53 zgl:=by
  refine zo yi zk rfl func53 rfl call53 (D:=z9v) ?_ ?_
  ·intro args hp K h
   unfold zgl at h
   split at h
   ·exact Nat.le_of_ble_eq_true rfl
   ·exact h.elim
  ·intro args hp K h
   unfold zgl at h
   split at h
   ·rename_i p
    by_cases h1:0≤p
    ·by_cases h2:p≤16384
     ·have d2:decide (p≤16384)=true:=decide_eq_true h2
      rw [decide_eq_true ⟨h1,h2⟩] at h
      refine wk ?_
      rw [d2]
      conv=>whnf
      exact ze (hp':= []) [] h
     ·have d2:decide (p≤16384)=false:=decide_eq_false h2
      rw [decide_eq_false fun hh=>h2 hh.2] at h
      refine wk ?_
      rw [d2]
      conv=>whnf
      exact ze (hp':= []) [] h
    ·rw [decide_eq_false fun hh=>h1 hh.1] at h
     refine wk ?_
     exact ze (hp':= []) [] h
   ·exact h.elim
def zu6:Spec:=fun args hp K=>match args,hp with
  | [.int p],[]=>zr (decide (0≤p∧p≤16384)) (K (.tup [.ptr 0 0 0 [],.int 0]) [.mk 88 [.int p,.nilptr,.nilptr,.str [],.int (-1)]]) (K (.tup [.nilptr,.int 2100]) [])
  |_,_=>False
theorem zza:zp prog 25 zu6:=by
  refine zo yi (zd zqz zk) rfl func25 rfl call25 (D:=z83) ?_ ?_
  ·intro args hp K h
   unfold zu6 at h
   split at h
   ·exact Nat.le_of_ble_eq_true rfl
   ·exact h.elim
  ·intro args hp K h
   unfold zu6 at h
   split at h
   ·rename_i p
    obtain ⟨ht,hf⟩:=zu h
    generalize e:decide (0≤p∧p≤16384)=c at ht hf
    cases c
    ·have h:=hf rfl
     repeat ((conv=>whnf);first|refine zn ?_|refine zf ?_|refine zg ?_|refine za ?_|refine zq (by first|exact e|(rw [e];rfl)) ?_|refine zi (by first|exact e|(rw [e];rfl)) ?_|refine zj (by first|exact e|(rw [e];rfl)) ?_)
     conv=>whnf
     exact ze (hp':= []) [] h
    ·have h:=ht rfl
     repeat ((conv=>whnf);first|refine zn ?_|refine zf ?_|refine zg ?_|refine za ?_|refine zq (by first|exact e|(rw [e];rfl)) ?_|refine zi (by first|exact e|(rw [e];rfl)) ?_|refine zj (by first|exact e|(rw [e];rfl)) ?_)
     conv=>whnf
     conv=>whnf
     exact ze (hp':= [.mk 88 [.int p,.nilptr,.nilptr,.str [],.int (-1)]]) [1] h
   ·exact h.elim
def zn8:Spec:=fun args hp K=>match args,hp with
  | [.ptr 0 0 0 [],.str s],[.mk t0 [.int p,.nilptr,.nilptr,.str held,.int f]]=>Pre (held.length+s.length<9223372036854775808) (K (.tup []) [.mk t0 [.int p,.nilptr,.nilptr,.str (held++s),.int f]])
  | [.ptr 0 0 0 [],.str s],[.mk t0 [.int p,.ptr 1 0 0 [],.nilptr,.str held,.int f],.mk tka [.int aw,.str akey,.str aiv,.int am]]=>Pre (held.length+s.length<9223372036854775808) (K (.tup []) [.mk t0 [.int p,.ptr 1 0 0 [],.nilptr,.str (held++s),.int f],.mk tka [.int aw,.str akey,.str aiv,.int am]])
  | [.ptr 0 0 0 [],.str s],[.mk t0 [.int p,.nilptr,.ptr 1 0 0 [],.str held,.int f],.mk tkb [.int bw,.str bkey,.str biv,.int bm]]=>Pre (held.length+s.length<9223372036854775808) (K (.tup []) [.mk t0 [.int p,.nilptr,.ptr 1 0 0 [],.str (held++s),.int f],.mk tkb [.int bw,.str bkey,.str biv,.int bm]])
  | [.ptr 0 0 0 [],.str s],[.mk t0 [.int p,.ptr 1 0 0 [],.ptr 2 0 0 [],.str held,.int f],.mk tka [.int aw,.str akey,.str aiv,.int am],.mk tkb [.int bw,.str bkey,.str biv,.int bm]]=>Pre (held.length+s.length<9223372036854775808) (K (.tup []) [.mk t0 [.int p,.ptr 1 0 0 [],.ptr 2 0 0 [],.str (held++s),.int f],.mk tka [.int aw,.str akey,.str aiv,.int am],.mk tkb [.int bw,.str bkey,.str biv,.int bm]])
  |_,_=>False
set_option maxHeartbeats 4000000 in
theorem zvg:zp prog 28 zn8:=by
  refine zo yi zk rfl func28 rfl call28 (D:=z9i) ?_ ?_
  ·intro args hp K h
   unfold zn8 at h
   split at h
   ·exact Nat.le_of_ble_eq_true rfl
   ·exact Nat.le_of_ble_eq_true rfl
   ·exact Nat.le_of_ble_eq_true rfl
   ·exact Nat.le_of_ble_eq_true rfl
   ·exact h.elim
  ·intro args hp K h
   unfold zn8 at h
   split at h
   ·rename_i s t0 p held f
    obtain ⟨hl,h⟩:=zl h
    refine wk ?_
    exact ze (hp':= [.mk t0 [.int p,.nilptr,.nilptr,.str (held++s),.int f]]) [0] h
   ·rename_i s t0 p held f tka aw akey aiv am
    obtain ⟨hl,h⟩:=zl h
    refine wk ?_
    exact ze (hp':= [.mk t0 [.int p,.ptr 1 0 0 [],.nilptr,.str (held++s),.int f],.mk tka [.int aw,.str akey,.str aiv,.int am]]) [0,1] h
   ·rename_i s t0 p held f tkb bw bkey biv bm
    obtain ⟨hl,h⟩:=zl h
    refine wk ?_
    exact ze (hp':= [.mk t0 [.int p,.nilptr,.ptr 1 0 0 [],.str (held++s),.int f],.mk tkb [.int bw,.str bkey,.str biv,.int bm]]) [0,1] h
   ·rename_i s t0 p held f tka aw akey aiv am tkb bw bkey biv bm
    obtain ⟨hl,h⟩:=zl h
    refine wk ?_
    exact ze (hp':= [.mk t0 [.int p,.ptr 1 0 0 [],.ptr 2 0 0 [],.str (held++s),.int f],.mk tka [.int aw,.str akey,.str aiv,.int am],.mk tkb [.int bw,.str bkey,.str biv,.int bm]]) [0,1,2] h
   ·exact h.elim
def ztc:Spec:=fun args hp K=>match args,hp with
  | [.ptr 0 0 0 []],[.mk t0 [.int p,.nilptr,.nilptr,.str held,.int f]]=>K (.int 0) [.mk t0 [.int p,.nilptr,.nilptr,.str held,.int f]]
  | [.ptr 0 0 0 []],[.mk t0 [.int p,.ptr 1 0 0 [],.nilptr,.str held,.int f],.mk tka [.int aw,.str akey,.str aiv,.int am]]=>K (.int am) [.mk t0 [.int p,.ptr 1 0 0 [],.nilptr,.str held,.int f],.mk tka [.int aw,.str akey,.str aiv,.int am]]
  | [.ptr 0 0 0 []],[.mk t0 [.int p,.nilptr,.ptr 1 0 0 [],.str held,.int f],.mk tkb [.int bw,.str bkey,.str biv,.int bm]]=>K (.int 0) [.mk t0 [.int p,.nilptr,.ptr 1 0 0 [],.str held,.int f],.mk tkb [.int bw,.str bkey,.str biv,.int bm]]
  | [.ptr 0 0 0 []],[.mk t0 [.int p,.ptr 1 0 0 [],.ptr 2 0 0 [],.str held,.int f],.mk tka [.int aw,.str akey,.str aiv,.int am],.mk tkb [.int bw,.str bkey,.str biv,.int bm]]=>K (.int am) [.mk t0 [.int p,.ptr 1 0 0 [],.ptr 2 0 0 [],.str held,.int f],.mk tka [.int aw,.str akey,.str aiv,.int am],.mk tkb [.int bw,.str bkey,.str biv,.int bm]]
  |_,_=>False
set_option maxHeartbeats 4000000 in
theorem z3b:zp prog 58 ztc:=by
  refine zo yi zk rfl func58 rfl call58 (D:=z9a) ?_ ?_
  ·intro args hp K h
   unfold ztc at h
   split at h
   ·exact Nat.le_of_ble_eq_true rfl
   ·exact Nat.le_of_ble_eq_true rfl
   ·exact Nat.le_of_ble_eq_true rfl
   ·exact Nat.le_of_ble_eq_true rfl
   ·exact h.elim
  ·intro args hp K h
   unfold ztc at h
   split at h
   ·rename_i t0 p held f
    refine wk ?_
    exact ze (hp':= [.mk t0 [.int p,.nilptr,.nilptr,.str held,.int f]]) [0] h
   ·rename_i t0 p held f tka aw akey aiv am
    refine wk ?_
    exact ze (hp':= [.mk t0 [.int p,.ptr 1 0 0 [],.nilptr,.str held,.int f],.mk tka [.int aw,.str akey,.str aiv,.int am]]) [0,1] h
   ·rename_i t0 p held f tkb bw bkey biv bm
    refine wk ?_
    exact ze (hp':= [.mk t0 [.int p,.nilptr,.ptr 1 0 0 [],.str held,.int f],.mk tkb [.int bw,.str bkey,.str biv,.int bm]]) [0,1] h
   ·rename_i t0 p held f tka aw akey aiv am tkb bw bkey biv bm
    refine wk ?_
    exact ze (hp':= [.mk t0 [.int p,.ptr 1 0 0 [],.ptr 2 0 0 [],.str held,.int f],.mk tka [.int aw,.str akey,.str aiv,.int am],.mk tkb [.int bw,.str bkey,.str biv,.int bm]]) [0,1,2] h
   ·exact h.elim
def zon:Spec:=fun args hp K=>match args,hp with
  | [.ptr 0 0 0 []],[.mk t0 [.int p,.nilptr,.nilptr,.str held,.int f]]=>K (.int 0) [.mk t0 [.int p,.nilptr,.nilptr,.str held,.int f]]
  | [.ptr 0 0 0 []],[.mk t0 [.int p,.ptr 1 0 0 [],.nilptr,.str held,.int f],.mk tka [.int aw,.str akey,.str aiv,.int am]]=>K (.int am) [.mk t0 [.int p,.ptr 1 0 0 [],.nilptr,.str held,.int f],.mk tka [.int aw,.str akey,.str aiv,.int am]]
  | [.ptr 0 0 0 []],[.mk t0 [.int p,.nilptr,.ptr 1 0 0 [],.str held,.int f],.mk tkb [.int bw,.str bkey,.str biv,.int bm]]=>K (.int 0) [.mk t0 [.int p,.nilptr,.ptr 1 0 0 [],.str held,.int f],.mk tkb [.int bw,.str bkey,.str biv,.int bm]]
  | [.ptr 0 0 0 []],[.mk t0 [.int p,.ptr 1 0 0 [],.ptr 2 0 0 [],.str held,.int f],.mk tka [.int aw,.str akey,.str aiv,.int am],.mk tkb [.int bw,.str bkey,.str biv,.int bm]]=>K (.int am) [.mk t0 [.int p,.ptr 1 0 0 [],.ptr 2 0 0 [],.str held,.int f],.mk tka [.int aw,.str akey,.str aiv,.int am],.mk tkb [.int bw,.str bkey,.str biv,.int bm]]
  |_,_=>False
set_option maxHeartbeats 4000000 in
theorem zuo:zp prog 32 zon:=by
  refine zo yi (zd z3b zk) rfl func32 rfl call32 (D:=z84) ?_ ?_
  ·intro args hp K h
   unfold zon at h
   split at h
   ·exact Nat.le_of_ble_eq_true rfl
   ·exact Nat.le_of_ble_eq_true rfl
   ·exact Nat.le_of_ble_eq_true rfl
   ·exact Nat.le_of_ble_eq_true rfl
   ·exact h.elim
  ·intro args hp K h
   unfold zon at h
   split at h
   ·rename_i t0 p held f
    refine wk ?_
    exact ze (hp':= [.mk t0 [.int p,.nilptr,.nilptr,.str held,.int f]]) [0] h
   ·rename_i t0 p held f tka aw akey aiv am
    refine wk ?_
    exact ze (hp':= [.mk t0 [.int p,.ptr 1 0 0 [],.nilptr,.str held,.int f],.mk tka [.int aw,.str akey,.str aiv,.int am]]) [0,1] h
   ·rename_i t0 p held f tkb bw bkey biv bm
    refine wk ?_
    exact ze (hp':= [.mk t0 [.int p,.nilptr,.ptr 1 0 0 [],.str held,.int f],.mk tkb [.int bw,.str bkey,.str biv,.int bm]]) [0,1] h
   ·rename_i t0 p held f tka aw akey aiv am tkb bw bkey biv bm
    refine wk ?_
    exact ze (hp':= [.mk t0 [.int p,.ptr 1 0 0 [],.ptr 2 0 0 [],.str held,.int f],.mk tka [.int aw,.str akey,.str aiv,.int am],.mk tkb [.int bw,.str bkey,.str biv,.int bm]]) [0,1,2] h
   ·exact h.elim
def zj2:Spec:=fun args hp K=>match args,hp with
  | [.ptr 0 0 0 [],.int w,.str s],[.mk t0 [.int p,.nilptr,.nilptr,.str held,.int f]]=>Pre (s.length≤140737488351232) (zr (decide (su w)) (K (.int 0) [.mk t0 [.int p,.nilptr,.ptr 1 0 0 [],.str held,.int f],.mk 130 [.int w,.str (kyF w s),.str (ivF w s),.int 0]]) (K (.int 2100) [.mk t0 [.int p,.nilptr,.nilptr,.str held,.int f]]))
  | [.ptr 0 0 0 [],.int w,.str s],[.mk t0 [.int p,.ptr 1 0 0 [],.nilptr,.str held,.int f],.mk tka [.int aw,.str akey,.str aiv,.int am]]=>Pre (s.length≤140737488351232) (zr (decide (su w)) (K (.int 0) [.mk t0 [.int p,.ptr 1 0 0 [],.ptr 2 0 0 [],.str held,.int f],.mk tka [.int aw,.str akey,.str aiv,.int am],.mk 130 [.int w,.str (kyF w s),.str (ivF w s),.int 0]]) (K (.int 2100) [.mk t0 [.int p,.ptr 1 0 0 [],.nilptr,.str held,.int f],.mk tka [.int aw,.str akey,.str aiv,.int am]]))
  | [.ptr 0 0 0 [],.int w,.str s],[.mk t0 [.int p,.nilptr,.ptr 1 0 0 [],.str held,.int f],.mk tkb [.int bw,.str bkey,.str biv,.int bm]]=>Pre (s.length≤140737488351232) (zr (decide (su w)) (K (.int 0) [.mk t0 [.int p,.nilptr,.ptr 2 0 0 [],.str held,.int f],.mk tkb [.int bw,.str bkey,.str biv,.int bm],.mk 130 [.int w,.str (kyF w s),.str (ivF w s),.int 0]]) (K (.int 2100) [.mk t0 [.int p,.nilptr,.ptr 1 0 0 [],.str held,.int f],.mk tkb [.int bw,.str bkey,.str biv,.int bm]]))
  | [.ptr 0 0 0 [],.int w,.str s],[.mk t0 [.int p,.ptr 1 0 0 [],.ptr 2 0 0 [],.str held,.int f],.mk tka [.int aw,.str akey,.str aiv,.int am],.mk tkb [.int bw,.str bkey,.str biv,.int bm]]=>Pre (s.length≤140737488351232) (zr (decide (su w)) (K (.int 0) [.mk t0 [.int p,.ptr 1 0 0 [],.ptr 3 0 0 [],.str held,.int f],.mk tka [.int aw,.str akey,.str aiv,.int am],.mk tkb [.int bw,.str bkey,.str biv,.int bm],.mk 130 [.int w,.str (kyF w s),.str (ivF w s),.int 0]]) (K (.int 2100) [.mk t0 [.int p,.ptr 1 0 0 [],.ptr 2 0 0 [],.str held,.int f],.mk tka [.int aw,.str akey,.str aiv,.int am],.mk tkb [.int bw,.str bkey,.str biv,.int bm]]))
  |_,_=>False
set_option maxHeartbeats 4000000 in
theorem zrj:zp prog 26 zj2:=by
  refine zo yi (zd zmp zk) rfl func26 rfl call26 (D:=z8u) ?_ ?_
  ·intro args hp K h
   unfold zj2 at h
   split at h
   ·exact Nat.le_of_ble_eq_true rfl
   ·exact Nat.le_of_ble_eq_true rfl
   ·exact Nat.le_of_ble_eq_true rfl
   ·exact Nat.le_of_ble_eq_true rfl
   ·exact h.elim
  ·intro args hp K h
   unfold zj2 at h
   split at h
   ·rename_i w s t0 p held f
    obtain ⟨hl,h⟩:=zl h
    obtain ⟨ht,hf⟩:=zu h
    generalize e:decide (su w)=c at ht hf
    cases c
    ·have h:=hf rfl
     refine wk ?_
     exact ze (hp':= [.mk t0 [.int p,.nilptr,.nilptr,.str held,.int f]]) [0] h
    ·have h:=ht rfl
     refine wk ?_
     exact ze (hp':= [.mk t0 [.int p,.nilptr,.ptr 1 0 0 [],.str held,.int f],.mk 130 [.int w,.str (kyF w s),.str (ivF w s),.int 0]]) [0,1] h
   ·rename_i w s t0 p held f tka aw akey aiv am
    obtain ⟨hl,h⟩:=zl h
    obtain ⟨ht,hf⟩:=zu h
    generalize e:decide (su w)=c at ht hf
    cases c
    ·have h:=hf rfl
     refine wk ?_
     exact ze (hp':= [.mk t0 [.int p,.ptr 1 0 0 [],.nilptr,.str held,.int f],.mk tka [.int aw,.str akey,.str aiv,.int am]]) [0,1] h
    ·have h:=ht rfl
     refine wk ?_
     exact ze (hp':= [.mk t0 [.int p,.ptr 1 0 0 [],.ptr 2 0 0 [],.str held,.int f],.mk tka [.int aw,.str akey,.str aiv,.int am],.mk 130 [.int w,.str (kyF w s),.str (ivF w s),.int 0]]) [0,1,2] h
   ·rename_i w s t0 p held f tkb bw bkey biv bm
    obtain ⟨hl,h⟩:=zl h
    obtain ⟨ht,hf⟩:=zu h
    generalize e:decide (su w)=c at ht hf
    cases c
    ·have h:=hf rfl
     refine wk ?_
     exact ze (hp':= [.mk t0 [.int p,.nilptr,.ptr 1 0 0 [],.str held,.int f],.mk tkb [.int bw,.str bkey,.str biv,.int bm]]) [0,1] h
    ·have h:=ht rfl
     refine wk ?_
     exact ze (hp':= [.mk t0 [.int p,.nilptr,.ptr 2 0 0 [],.str held,.int f],.mk tkb [.int bw,.str bkey,.str biv,.int bm],.mk 130 [.int w,.str (kyF w s),.str (ivF w s),.int 0]]) [0,1,2] h
   ·rename_i w s t0 p held f tka aw akey aiv am tkb bw bkey biv bm
    obtain ⟨hl,h⟩:=zl h
    obtain ⟨ht,hf⟩:=zu h
    generalize e:decide (su w)=c at ht hf
    cases c
    ·have h:=hf rfl
     refine wk ?_
     exact ze (hp':= [.mk t0 [.int p,.ptr 1 0 0 [],.ptr 2 0 0 [],.str held,.int f],.mk tka [.int aw,.str akey,.str aiv,.int am],.mk tkb [.int bw,.str bkey,.str biv,.int bm]]) [0,1,2] h
    ·have h:=ht rfl
     refine wk ?_
     exact ze (hp':= [.mk t0 [.int p,.ptr 1 0 0 [],.ptr 3 0 0 [],.str held,.int f],.mk tka [.int aw,.str akey,.str aiv,.int am],.mk tkb [.int bw,.str bkey,.str biv,.int bm],.mk 130 [.int w,.str (kyF w s),.str (ivF w s),.int 0]]) [0,1,2,3] h
   ·exact h.elim
def zmc:Spec:=fun args hp K=>match args,hp with
  | [.ptr 0 0 0 [],.int w,.str s],[.mk t0 [.int p,.nilptr,.nilptr,.str held,.int f]]=>Pre (s.length≤140737488351232) (zr (decide (su w)) (K (.int 0) [.mk t0 [.int p,.ptr 1 0 0 [],.nilptr,.str held,.int f],.mk 130 [.int w,.str (kyF w s),.str (ivF w s),.int 0]]) (K (.int 2100) [.mk t0 [.int p,.nilptr,.nilptr,.str held,.int f]]))
  | [.ptr 0 0 0 [],.int w,.str s],[.mk t0 [.int p,.ptr 1 0 0 [],.nilptr,.str held,.int f],.mk tka [.int aw,.str akey,.str aiv,.int am]]=>Pre (s.length≤140737488351232) (zr (decide (su w)) (K (.int 0) [.mk t0 [.int p,.ptr 2 0 0 [],.nilptr,.str held,.int f],.mk tka [.int aw,.str akey,.str aiv,.int am],.mk 130 [.int w,.str (kyF w s),.str (ivF w s),.int 0]]) (K (.int 2100) [.mk t0 [.int p,.ptr 1 0 0 [],.nilptr,.str held,.int f],.mk tka [.int aw,.str akey,.str aiv,.int am]]))
  | [.ptr 0 0 0 [],.int w,.str s],[.mk t0 [.int p,.nilptr,.ptr 1 0 0 [],.str held,.int f],.mk tkb [.int bw,.str bkey,.str biv,.int bm]]=>Pre (s.length≤140737488351232) (zr (decide (su w)) (K (.int 0) [.mk t0 [.int p,.ptr 2 0 0 [],.ptr 1 0 0 [],.str held,.int f],.mk tkb [.int bw,.str bkey,.str biv,.int bm],.mk 130 [.int w,.str (kyF w s),.str (ivF w s),.int 0]]) (K (.int 2100) [.mk t0 [.int p,.nilptr,.ptr 1 0 0 [],.str held,.int f],.mk tkb [.int bw,.str bkey,.str biv,.int bm]]))
  | [.ptr 0 0 0 [],.int w,.str s],[.mk t0 [.int p,.ptr 1 0 0 [],.ptr 2 0 0 [],.str held,.int f],.mk tka [.int aw,.str akey,.str aiv,.int am],.mk tkb [.int bw,.str bkey,.str biv,.int bm]]=>Pre (s.length≤140737488351232) (zr (decide (su w)) (K (.int 0) [.mk t0 [.int p,.ptr 3 0 0 [],.ptr 2 0 0 [],.str held,.int f],.mk tka [.int aw,.str akey,.str aiv,.int am],.mk tkb [.int bw,.str bkey,.str biv,.int bm],.mk 130 [.int w,.str (kyF w s),.str (ivF w s),.int 0]]) (K (.int 2100) [.mk t0 [.int p,.ptr 1 0 0 [],.ptr 2 0 0 [],.str held,.int f],.mk tka [.int aw,.str akey,.str aiv,.int am],.mk tkb [.int bw,.str bkey,.str biv,.int bm]]))
  |_,_=>False
set_option maxHeartbeats 4000000 in
theorem zvk:zp prog 56 zmc:=by
  refine zo yi (zd zmp zk) rfl func56 rfl call56 (D:=z78) ?_ ?_
  ·intro args hp K h
   unfold zmc at h
   split at h
   ·exact Nat.le_of_ble_eq_true rfl
   ·exact Nat.le_of_ble_eq_true rfl
   ·exact Nat.le_of_ble_eq_true rfl
   ·exact Nat.le_of_ble_eq_true rfl
   ·exact h.elim
  ·intro args hp K h
   unfold zmc at h
   split at h
   ·rename_i w s t0 p held f
    obtain ⟨hl,h⟩:=zl h
    obtain ⟨ht,hf⟩:=zu h
    generalize e:decide (su w)=c at ht hf
    cases c
    ·have h:=hf rfl
     refine wk ?_
     exact ze (hp':= [.mk t0 [.int p,.nilptr,.nilptr,.str held,.int f]]) [0] h
    ·have h:=ht rfl
     refine wk ?_
     exact ze (hp':= [.mk t0 [.int p,.ptr 1 0 0 [],.nilptr,.str held,.int f],.mk 130 [.int w,.str (kyF w s),.str (ivF w s),.int 0]]) [0,1] h
   ·rename_i w s t0 p held f tka aw akey aiv am
    obtain ⟨hl,h⟩:=zl h
    obtain ⟨ht,hf⟩:=zu h
    generalize e:decide (su w)=c at ht hf
    cases c
    ·have h:=hf rfl
     refine wk ?_
     exact ze (hp':= [.mk t0 [.int p,.ptr 1 0 0 [],.nilptr,.str held,.int f],.mk tka [.int aw,.str akey,.str aiv,.int am]]) [0,1] h
    ·have h:=ht rfl
     refine wk ?_
     exact ze (hp':= [.mk t0 [.int p,.ptr 2 0 0 [],.nilptr,.str held,.int f],.mk tka [.int aw,.str akey,.str aiv,.int am],.mk 130 [.int w,.str (kyF w s),.str (ivF w s),.int 0]]) [0,1,2] h
   ·rename_i w s t0 p held f tkb bw bkey biv bm
    obtain ⟨hl,h⟩:=zl h
    obtain ⟨ht,hf⟩:=zu h
    generalize e:decide (su w)=c at ht hf
    cases c
    ·have h:=hf rfl
     refine wk ?_
     exact ze (hp':= [.mk t0 [.int p,.nilptr,.ptr 1 0 0 [],.str held,.int f],.mk tkb [.int bw,.str bkey,.str biv,.int bm]]) [0,1] h
    ·have h:=ht rfl
     refine wk ?_
     exact ze (hp':= [.mk t0 [.int p,.ptr 2 0 0 [],.ptr 1 0 0 [],.str held,.int f],.mk tkb [.int bw,.str bkey,.str biv,.int bm],.mk 130 [.int w,.str (kyF w s),.str (ivF w s),.int 0]]) [0,1,2] h
   ·rename_i w s t0 p held f tka aw akey aiv am tkb bw bkey biv bm
    obtain ⟨hl,h⟩:=zl h
    obtain ⟨ht,hf⟩:=zu h
    generalize e:decide (su w)=c at ht hf
    cases c
    ·have h:=hf rfl
     refine wk ?_
     exact ze (hp':= [.mk t0 [.int p,.ptr 1 0 0 [],.ptr 2 0 0 [],.str held,.int f],.mk tka [.int aw,.str akey,.str aiv,.int am],.mk tkb [.int bw,.str bkey,.str biv,.int bm]]) [0,1,2] h
    ·have h:=ht rfl
     refine wk ?_
     exact ze (hp':= [.mk t0 [.int p,.ptr 3 0 0 [],.ptr 2 0 0 [],.str held,.int f],.mk tka [.int aw,.str akey,.str aiv,.int am],.mk tkb [.int bw,.str bkey,.str biv,.int bm],.mk 130 [.int w,.str (kyF w s),.str (ivF w s),.int 0]]) [0,1,2,3] h
   ·exact h.elim
def zhg:Spec:=fun args hp K=>match args,hp with
  | [.ptr 0 0 0 [],.int w,.str s],[.mk t0 [.int p,.nilptr,.nilptr,.str held,.int f]]=>Pre (s.length≤140737488351232) (zr (decide (su w)) (K (.int 0) [.mk t0 [.int p,.ptr 1 0 0 [],.nilptr,.str held,.int f],.mk 130 [.int w,.str (kyF w s),.str (ivF w s),.int 0]]) (K (.int 2100) [.mk t0 [.int p,.nilptr,.nilptr,.str held,.int f]]))
  | [.ptr 0 0 0 [],.int w,.str s],[.mk t0 [.int p,.ptr 1 0 0 [],.nilptr,.str held,.int f],.mk tka [.int aw,.str akey,.str aiv,.int am]]=>Pre (s.length≤140737488351232) (zr (decide (su w)) (K (.int 0) [.mk t0 [.int p,.ptr 2 0 0 [],.nilptr,.str held,.int f],.mk tka [.int aw,.str akey,.str aiv,.int am],.mk 130 [.int w,.str (kyF w s),.str (ivF w s),.int 0]]) (K (.int 2100) [.mk t0 [.int p,.ptr 1 0 0 [],.nilptr,.str held,.int f],.mk tka [.int aw,.str akey,.str aiv,.int am]]))
  | [.ptr 0 0 0 [],.int w,.str s],[.mk t0 [.int p,.nilptr,.ptr 1 0 0 [],.str held,.int f],.mk tkb [.int bw,.str bkey,.str biv,.int bm]]=>Pre (s.length≤140737488351232) (zr (decide (su w)) (K (.int 0) [.mk t0 [.int p,.ptr 2 0 0 [],.ptr 1 0 0 [],.str held,.int f],.mk tkb [.int bw,.str bkey,.str biv,.int bm],.mk 130 [.int w,.str (kyF w s),.str (ivF w s),.int 0]]) (K (.int 2100) [.mk t0 [.int p,.nilptr,.ptr 1 0 0 [],.str held,.int f],.mk tkb [.int bw,.str bkey,.str biv,.int bm]]))
  | [.ptr 0 0 0 [],.int w,.str s],[.mk t0 [.int p,.ptr 1 0 0 [],.ptr 2 0 0 [],.str held,.int f],.mk tka [.int aw,.str akey,.str aiv,.int am],.mk tkb [.int bw,.str bkey,.str biv,.int bm]]=>Pre (s.length≤140737488351232) (zr (decide (su w)) (K (.int 0) [.mk t0 [.int p,.ptr 3 0 0 [],.ptr 2 0 0 [],.str held,.int f],.mk tka [.int aw,.str akey,.str aiv,.int am],.mk tkb [.int bw,.str bkey,.str biv,.int bm],.mk 130 [.int w,.str (kyF w s),.str (ivF w s),.int 0]]) (K (.int 2100) [.mk t0 [.int p,.ptr 1 0 0 [],.ptr 2 0 0 [],.str held,.int f],.mk tka [.int aw,.str akey,.str aiv,.int am],.mk tkb [.int bw,.str bkey,.str biv,.int bm]]))
  |_,_=>False
set_option maxHeartbeats 4000000 in
theorem zm7:zp prog 30 zhg:=by
  refine zo yi (zd zvk zk) rfl func30 rfl call30 (D:=z73) ?_ ?_
  ·intro args hp K h
   unfold zhg at h
   split at h
   ·exact Nat.le_of_ble_eq_true rfl
   ·exact Nat.le_of_ble_eq_true rfl
   ·exact Nat.le_of_ble_eq_true rfl
   ·exact Nat.le_of_ble_eq_true rfl
   ·exact h.elim
  ·intro args hp K h
   unfold zhg at h
   split at h
   ·rename_i w s t0 p held f
    obtain ⟨hl,h⟩:=zl h
    obtain ⟨ht,hf⟩:=zu h
    generalize e:decide (su w)=c at ht hf
    cases c
    ·have h:=hf rfl
     refine wk ?_
     exact ze (hp':= [.mk t0 [.int p,.nilptr,.nilptr,.str held,.int f]]) [0] h
    ·have h:=ht rfl
     refine wk ?_
     exact ze (hp':= [.mk t0 [.int p,.ptr 1 0 0 [],.nilptr,.str held,.int f],.mk 130 [.int w,.str (kyF w s),.str (ivF w s),.int 0]]) [0,1] h
   ·rename_i w s t0 p held f tka aw akey aiv am
    obtain ⟨hl,h⟩:=zl h
    obtain ⟨ht,hf⟩:=zu h
    generalize e:decide (su w)=c at ht hf
    cases c
    ·have h:=hf rfl
     refine wk ?_
     exact ze (hp':= [.mk t0 [.int p,.ptr 1 0 0 [],.nilptr,.str held,.int f],.mk tka [.int aw,.str akey,.str aiv,.int am]]) [0,1] h
    ·have h:=ht rfl
     refine wk ?_
     exact ze (hp':= [.mk t0 [.int p,.ptr 2 0 0 [],.nilptr,.str held,.int f],.mk tka [.int aw,.str akey,.str aiv,.int am],.mk 130 [.int w,.str (kyF w s),.str (ivF w s),.int 0]]) [0,1,2] h
   ·rename_i w s t0 p held f tkb bw bkey biv bm
    obtain ⟨hl,h⟩:=zl h
    obtain ⟨ht,hf⟩:=zu h
    generalize e:decide (su w)=c at ht hf
    cases c
    ·have h:=hf rfl
     refine wk ?_
     exact ze (hp':= [.mk t0 [.int p,.nilptr,.ptr 1 0 0 [],.str held,.int f],.mk tkb [.int bw,.str bkey,.str biv,.int bm]]) [0,1] h
    ·have h:=ht rfl
     refine wk ?_
     exact ze (hp':= [.mk t0 [.int p,.ptr 2 0 0 [],.ptr 1 0 0 [],.str held,.int f],.mk tkb [.int bw,.str bkey,.str biv,.int bm],.mk 130 [.int w,.str (kyF w s),.str (ivF w s),.int 0]]) [0,1,2] h
   ·rename_i w s t0 p held f tka aw akey aiv am tkb bw bkey biv bm
    obtain ⟨hl,h⟩:=zl h
    obtain ⟨ht,hf⟩:=zu h
    generalize e:decide (su w)=c at ht hf
    cases c
    ·have h:=hf rfl
     refine wk ?_
     exact ze (hp':= [.mk t0 [.int p,.ptr 1 0 0 [],.ptr 2 0 0 [],.str held,.int f],.mk tka [.int aw,.str akey,.str aiv,.int am],.mk tkb [.int bw,.str bkey,.str biv,.int bm]]) [0,1,2] h
    ·have h:=ht rfl
     refine wk ?_
     exact ze (hp':= [.mk t0 [.int p,.ptr 3 0 0 [],.ptr 2 0 0 [],.str held,.int f],.mk tka [.int aw,.str akey,.str aiv,.int am],.mk tkb [.int bw,.str bkey,.str biv,.int bm],.mk 130 [.int w,.str (kyF w s),.str (ivF w s),.int 0]]) [0,1,2,3] h
   ·exact h.elim
def inL (p n:Int):Int:=if 0<p then min ((n+1+p-1)/ p*p) 16385 else n+1
def zoe:Spec:=fun args hp K=>match args,hp with
  | [.ptr 0 0 0 [],.int n],[.mk t0 [.int p,.ptr 1 0 0 [],.nilptr,.str held,.int f],.mk tka [.int aw,.str akey,.str aiv,.int am]]=>Pre (0≤n∧n≤16384∧0≤p∧p≤16384) (K (.int (inL p n)) [.mk t0 [.int p,.ptr 1 0 0 [],.nilptr,.str held,.int f],.mk tka [.int aw,.str akey,.str aiv,.int am]])
  | [.ptr 0 0 0 [],.int n],[.mk t0 [.int p,.ptr 1 0 0 [],.ptr 2 0 0 [],.str held,.int f],.mk tka [.int aw,.str akey,.str aiv,.int am],.mk tkb [.int bw,.str bkey,.str biv,.int bm]]=>Pre (0≤n∧n≤16384∧0≤p∧p≤16384) (K (.int (inL p n)) [.mk t0 [.int p,.ptr 1 0 0 [],.ptr 2 0 0 [],.str held,.int f],.mk tka [.int aw,.str akey,.str aiv,.int am],.mk tkb [.int bw,.str bkey,.str biv,.int bm]])
  |_,_=>False
set_option maxHeartbeats 4000000 in
theorem zz3:zp prog 86 zoe:=by
  refine zo yi zk rfl func86 rfl call86 (D:=z8a) ?_ ?_
  ·intro args hp K h
   unfold zoe at h
   split at h
   ·exact Nat.le_of_ble_eq_true rfl
   ·exact Nat.le_of_ble_eq_true rfl
   ·exact h.elim
  ·intro args hp K h
   unfold zoe at h
   split at h
   ·rename_i n t0 p held f tka aw akey aiv am
    obtain ⟨⟨hn0,hn1,hp0,hp1⟩,h⟩:=zl h
    by_cases h0:0<p
    ·have hq:(n+1+p-1).tdiv p=(n+1+p-1)/ p:=Int.tdiv_eq_ediv_of_nonneg (by omega)
     have hm1:=Int.ediv_mul_le (n+1+p-1) (show p≠0 by omega)
     have hm0:0≤(n+1+p-1)/ p:=Int.ediv_nonneg (by omega) (by omega)
     have hm2:0≤(n+1+p-1)/ p*p:=Int.mul_nonneg hm0 hp0
     have hm3:(n+1+p-1)/ p≤n+1+p-1:=Int.ediv_le_self _ (by omega)
     have hpd:p≠0∧yh ((n+1+p-1).tdiv p):=⟨by omega,by rw [hq];unfold yh;omega⟩
     have hpm:yh ((n+1+p-1).tdiv p*p):=by rw [hq];unfold yh;omega
     have hG:inL p n=min ((n+1+p-1).tdiv p*p) 16385:=by unfold inL;rw [if_pos h0,hq]
     rw [hG] at h
     refine wk ?_
     exact ze (hp':= [.mk t0 [.int p,.ptr 1 0 0 [],.nilptr,.str held,.int f],.mk tka [.int aw,.str akey,.str aiv,.int am]]) [0,1] h
    ·have hG:inL p n=n+1:=by unfold inL;rw [if_neg h0]
     rw [hG] at h
     refine wk ?_
     exact ze (hp':= [.mk t0 [.int p,.ptr 1 0 0 [],.nilptr,.str held,.int f],.mk tka [.int aw,.str akey,.str aiv,.int am]]) [0,1] h
   ·rename_i n t0 p held f tka aw akey aiv am tkb bw bkey biv bm
    obtain ⟨⟨hn0,hn1,hp0,hp1⟩,h⟩:=zl h
    by_cases h0:0<p
    ·have hq:(n+1+p-1).tdiv p=(n+1+p-1)/ p:=Int.tdiv_eq_ediv_of_nonneg (by omega)
     have hm1:=Int.ediv_mul_le (n+1+p-1) (show p≠0 by omega)
     have hm0:0≤(n+1+p-1)/ p:=Int.ediv_nonneg (by omega) (by omega)
     have hm2:0≤(n+1+p-1)/ p*p:=Int.mul_nonneg hm0 hp0
     have hm3:(n+1+p-1)/ p≤n+1+p-1:=Int.ediv_le_self _ (by omega)
     have hpd:p≠0∧yh ((n+1+p-1).tdiv p):=⟨by omega,by rw [hq];unfold yh;omega⟩
     have hpm:yh ((n+1+p-1).tdiv p*p):=by rw [hq];unfold yh;omega
     have hG:inL p n=min ((n+1+p-1).tdiv p*p) 16385:=by unfold inL;rw [if_pos h0,hq]
     rw [hG] at h
     refine wk ?_
     exact ze (hp':= [.mk t0 [.int p,.ptr 1 0 0 [],.ptr 2 0 0 [],.str held,.int f],.mk tka [.int aw,.str akey,.str aiv,.int am],.mk tkb [.int bw,.str bkey,.str biv,.int bm]]) [0,1,2] h
    ·have hG:inL p n=n+1:=by unfold inL;rw [if_neg h0]
     rw [hG] at h
     refine wk ?_
     exact ze (hp':= [.mk t0 [.int p,.ptr 1 0 0 [],.ptr 2 0 0 [],.str held,.int f],.mk tka [.int aw,.str akey,.str aiv,.int am],.mk tkb [.int bw,.str bkey,.str biv,.int bm]]) [0,1,2] h
   ·exact h.elim
end Go.Sym.A

namespace Go.Sym.A
open Go Go.Proofs.Try Go.Sym.Lp Go.Sym.Gcm Go.Sym.Aes Go.Sym.Pol Go.Sym.Cha
set_option maxRecDepth 100000
attribute [local irreducible] zbr yr zjg zgg zfu xo zap yv gst gtg gW gR gH xl
def zrx:Spec:=fun args hp K=>match args,hp with
  | [.agg [.sl 0 0 0 [] n c,.nilsl]],[.mk t [.arr8 m l]]=>Pre (n=l.length∧0<n∧n≤100000)
      (zb4 fun x:List UInt8=>K (.sl 1 0 0 [] n (n+x.length)) [.mk t [.arr8 m l],.mk 5 [.arr8 (n+x.length) (l++x)]])
  |_,_=>False
theorem z27:zp prog 40 zrx:=by
  refine zo zca zk rfl func40 rfl call40 (D:=z9j) ?_ ?_
  ·intro args hp K h
   unfold zrx at h
   split at h
   ·exact Nat.le_of_ble_eq_true rfl
   ·exact h.elim
  ·intro args hp K h
   unfold zrx at h
   split at h
   ·rename_i n c t m l
    obtain ⟨⟨ha,h0,h1⟩,h⟩:=zl h
    have hla:(List.take n (List.drop (off []) l)).length=n:=by rw [List.length_take,List.length_drop];show min n (l.length-0)=n;omega
    have hle:List.take n (List.drop (off []) l)=l:=List.take_of_length_le (by show (List.drop 0 l).length≤n;rw [List.drop_zero];omega)
    refine wk ?_
    refine yq fun t1=>?_
    refine wk ?_
    refine zq ⟨by omega,by rw [List.length_append],by show _+0≤_;omega⟩ ?_
    refine wk ?_
    refine yq fun t2=>?_
    have h:=za4 h t2
    refine wk ?_
    rw [List.take_left' rfl,hle,List.length_nil,Nat.add_zero,List.append_nil,←ha]
    conv=>whnf
    exact ze (hp':= [.mk t [.arr8 m l],.mk 5 [.arr8 (n+t2.length) (l++t2)]]) [0,3] h
   ·exact h.elim
def zlm:Spec:=fun args hp K=>match args,hp with
  | [.agg [.sl 0 0 0 [] n c,.nilsl],.sl 1 0 0 [] N c2],[.mk t [.arr8 m l],.mk t2 [.arr8 M s]]=>Pre (N=n∧n=l.length∧0<n∧n≤100000∧n≤s.length∧n≤c2)
      (K (.tup []) [.mk t [.arr8 m (s.take n)],.mk t2 [.arr8 M s]])
  |_,_=>False
theorem zwn:zp prog 44 zlm:=by
  refine zo zca zk rfl func44 rfl call44 (D:=z9u) ?_ ?_
  ·intro args hp K h
   unfold zlm at h
   split at h
   ·exact Nat.le_of_ble_eq_true rfl
   ·exact h.elim
  ·intro args hp K h
   unfold zlm at h
   split at h
   ·rename_i n c N c2 t m l t2 M s
    obtain ⟨⟨hN,ha,h0,h1,hs,hc⟩,h'⟩:=zl h
    clear h
    subst hN
    have hl1:(List.take N (List.drop (off []) s)).length=N:=by rw [List.length_take,List.length_drop];show min N (s.length-0)=N;omega
    have hmn:(((min (List.take N (List.drop (off []) s)).length N:Nat):Int)).toNat=N:=by rw [hl1];omega
    have hsl:off (yc [] (slO c2 N) ty5.sz)+(N-N)≤s.length:=by
      rw [zv]
      show 0+slO c2 N*1+_≤_
      unfold slO;split<;>omega
    refine wk ?_
    have hEq:zx l (off []) (List.take (min (List.take N (List.drop (off []) s)).length N) (List.take N (List.drop (off []) s)))=s.take N:=by
      rw [hl1,Nat.min_self]
      have e1:List.take N (List.take N (List.drop (off []) s))=s.take N:=by rw [List.take_take,Nat.min_self];rfl
      rw [e1]
      unfold zx
      have e2:(s.take N).length=N:=by rw [List.length_take];omega
      show List.take 0 l++s.take N++List.drop (0+(s.take N).length) l=s.take N
      rw [e2,List.take_zero,List.nil_append,Nat.zero_add,List.drop_eq_nil_of_le (by omega),List.append_nil]
    rw [hmn]
    refine wk ?_
    refine yl (hp':= [.mk t [.arr8 m (s.take N)],.mk t2 [.arr8 M s]]) [0,1] h' ?_
    repeat ((conv=>whnf);refine za ?_)
    conv=>whnf
    refine zh (congrArg (fun y=>SV.agg [SV.arr8 m y]) hEq) ?_
    repeat ((conv=>whnf);refine za ?_)
    exact trivial
   ·exact h.elim
def zk0:Spec:=fun args hp K=>match args,hp with
  | [.int w,.str key,.str nonce,.str aad,.sl 0 0 0 [] n c,.nilsl],[.mk t [.arr8 m l]]=>Pre (n=l.length∧16≤n∧zkq w key nonce aad ((n:Int)+0-16))
      (K (.int 0) [.mk t [.arr8 m (xl w key nonce aad (l.take (n-16)))]])
  |_,_=>False
set_option maxHeartbeats 4000000 in
theorem zvt:zp prog 20 zk0:=by
  refine zo zca (zd z0b (zd z27 (zd zru (zd z45 (zd z4e (zd zwn zk)))))) rfl func20 rfl call20 (D:=z87) ?_ ?_
  ·intro args hp K h
   unfold zk0 at h
   split at h
   ·exact Nat.le_of_ble_eq_true rfl
   ·exact h.elim
  ·intro args hp K h
   unfold zk0 at h
   split at h
   ·rename_i w key nonce aad n c t m l
    obtain ⟨⟨hnl,h16,h0⟩,h⟩:=zl h
    have hd:decide (zf9 w key.length∧nonce.length=12∧aad.length≤65536∧(n:Int)+0-16≤65536)=true:=decide_eq_true (by unfold zkq at h0;exact h0)
    unfold zkq at h0
    obtain ⟨hk,h1,h2,h3⟩:=h0
    unfold zf9 at hk
    have hnn:((n:Int)+0-16).toNat=n-16:=by omega
    have hpj:n=l.length∧0<n∧n≤100000:=⟨hnl,by omega,by omega⟩
    by_cases h4:w=4867
    ·repeat ((conv=>whnf);first|refine zn ?_|refine zf ?_|refine zg ?_|refine za ?_|refine zq (by first|exact hd|(rw [hd];rfl)) ?_|refine zi (by first|exact hd|(rw [hd];rfl)) ?_|refine zj (by first|exact hd|(rw [hd];rfl)) ?_)
     conv=>whnf
     refine yq fun x=>?_
     have hRl:(l++x).length=n+x.length:=by rw [List.length_append,←hnl]
     have hT1:List.take ((n:Int)+0-16).toNat (l++x)=l.take (n-16):=by
       rw [hnn,List.take_append_of_le_length (by omega)]
     have hT3:List.drop ((n:Int)+0-16).toNat (l++x)=l.drop (n-16)++x:=by
       rw [hnn,List.drop_append_of_le_length (by omega)]
     have hStr:yv w key nonce=xo key nonce 1:=by funext b;unfold yv;rw [if_pos h4]
     have hX:(xo key nonce (UInt32.ofInt 1) (List.take ((n:Int)+0-16).toNat (l++x))++List.drop ((n:Int)+0-16).toNat (l++x))=yv w key nonce (l.take (n-16))++(l.drop (n-16)++x):=by
       rw [hT1,hT3,hStr];rfl
     have hXl:(xo key nonce (UInt32.ofInt 1) (List.take ((n:Int)+0-16).toNat (l++x))++List.drop ((n:Int)+0-16).toNat (l++x)).length=n+x.length:=by
       rw [hX,List.length_append,List.length_append,xc,List.length_take,List.length_drop]
       omega
     have hof:(off (yc [] (slO (n+x.length) ((n:Int)+0-16).toNat) ty5.sz))=n-16:=by rw [hnn,zv,xa (by omega)];show 0+(n-16)*1=_;omega
     have hpo:(off (yc [] (slO (n+x.length) ((n:Int)+0-16).toNat) ty5.sz))+(n-((n:Int)+0-16).toNat)≤(xo key nonce (UInt32.ofInt 1) (List.take ((n:Int)+0-16).toNat (l++x))++List.drop ((n:Int)+0-16).toNat (l++x)).length:=by rw [hof,hXl,hnn];omega
     have hA1:List.take ((n:Int)+0-16).toNat (xo key nonce (UInt32.ofInt 1) (List.take ((n:Int)+0-16).toNat (l++x))++List.drop ((n:Int)+0-16).toNat (l++x))=yv w key nonce (l.take (n-16)):=by
       rw [hX];exact List.take_left' (by rw [xc,List.length_take,hnn];omega)
     have hTg:(yr key nonce aad (List.take ((n:Int)+0-16).toNat (xo key nonce (UInt32.ofInt 1) (List.take ((n:Int)+0-16).toNat (l++x))++List.drop ((n:Int)+0-16).toNat (l++x))))=zap w key nonce aad (yv w key nonce (l.take (n-16))):=by
       rw [hA1];unfold zap;rw [if_pos h4]
     have hTl:(yr key nonce aad (List.take ((n:Int)+0-16).toNat (xo key nonce (UInt32.ofInt 1) (List.take ((n:Int)+0-16).toNat (l++x))++List.drop ((n:Int)+0-16).toNat (l++x)))).length=16:=by rw [hTg,zaz]
     have hpx:key.length=32∧nonce.length=12∧((n:Int)+0-16).toNat≤(l++x).length∧((n:Int)+0-16).toNat≤n+x.length∧((n:Int)+0-16).toNat≤9223372036854775807:=⟨by omega,h1,by omega,by omega,by omega⟩
     have hpt:key.length=32∧nonce.length=12∧aad.length≤65536∧((n:Int)+0-16).toNat≤65536∧((n:Int)+0-16).toNat≤(xo key nonce (UInt32.ofInt 1) (List.take ((n:Int)+0-16).toNat (l++x))++List.drop ((n:Int)+0-16).toNat (l++x)).length∧((n:Int)+0-16).toNat≤n+x.length:=⟨by omega,h1,h2,by omega,by omega,by omega⟩
     have hSp:(zx (xo key nonce (UInt32.ofInt 1) (List.take ((n:Int)+0-16).toNat (l++x))++List.drop ((n:Int)+0-16).toNat (l++x)) (off (yc [] (slO (n+x.length) ((n:Int)+0-16).toNat) ty5.sz)) (List.take (min (yr key nonce aad (List.take ((n:Int)+0-16).toNat (xo key nonce (UInt32.ofInt 1) (List.take ((n:Int)+0-16).toNat (l++x))++List.drop ((n:Int)+0-16).toNat (l++x)))).length (n-((n:Int)+0-16).toNat)) (yr key nonce aad (List.take ((n:Int)+0-16).toNat (xo key nonce (UInt32.ofInt 1) (List.take ((n:Int)+0-16).toNat (l++x))++List.drop ((n:Int)+0-16).toNat (l++x))))))=xl w key nonce aad (l.take (n-16))++x:=by
       rw [hTl,show min 16 (n-((n:Int)+0-16).toNat)=16 by omega,List.take_of_length_le (Nat.le_of_eq hTl),hTg,hof,hX,zav]
       unfold zx
       rw [zaz,List.take_left' (by rw [xc,List.length_take];omega),←List.append_assoc (yv w key nonce _),List.drop_left' (by rw [List.length_append,xc,List.length_take,List.length_drop];omega)]
     have hAl:(xl w key nonce aad (l.take (n-16))).length=n:=by
       rw [zav,List.length_append,zaz,xc,List.length_take];omega
     have hSpl:(zx (xo key nonce (UInt32.ofInt 1) (List.take ((n:Int)+0-16).toNat (l++x))++List.drop ((n:Int)+0-16).toNat (l++x)) (off (yc [] (slO (n+x.length) ((n:Int)+0-16).toNat) ty5.sz)) (List.take (min (yr key nonce aad (List.take ((n:Int)+0-16).toNat (xo key nonce (UInt32.ofInt 1) (List.take ((n:Int)+0-16).toNat (l++x))++List.drop ((n:Int)+0-16).toNat (l++x)))).length (n-((n:Int)+0-16).toNat)) (yr key nonce aad (List.take ((n:Int)+0-16).toNat (xo key nonce (UInt32.ofInt 1) (List.take ((n:Int)+0-16).toNat (l++x))++List.drop ((n:Int)+0-16).toNat (l++x)))))).length=n+x.length:=by rw [hSp,List.length_append,hAl]
     have hps:n=n∧n=l.length∧0<n∧n≤100000∧n≤(zx (xo key nonce (UInt32.ofInt 1) (List.take ((n:Int)+0-16).toNat (l++x))++List.drop ((n:Int)+0-16).toNat (l++x)) (off (yc [] (slO (n+x.length) ((n:Int)+0-16).toNat) ty5.sz)) (List.take (min (yr key nonce aad (List.take ((n:Int)+0-16).toNat (xo key nonce (UInt32.ofInt 1) (List.take ((n:Int)+0-16).toNat (l++x))++List.drop ((n:Int)+0-16).toNat (l++x)))).length (n-((n:Int)+0-16).toNat)) (yr key nonce aad (List.take ((n:Int)+0-16).toNat (xo key nonce (UInt32.ofInt 1) (List.take ((n:Int)+0-16).toNat (l++x))++List.drop ((n:Int)+0-16).toNat (l++x)))))).length∧n≤n+x.length:=⟨rfl,hnl,by omega,by omega,by omega,by omega⟩
     have hpj:n=l.length∧0<n∧n≤100000:=⟨hnl,by omega,by omega⟩
     refine wk ?_
     refine yl (hp':= [.mk t [.arr8 m (xl w key nonce aad (l.take (n-16)))]]) [0] h ?_
     repeat ((conv=>whnf);refine za ?_)
     conv=>whnf
     refine zh (congrArg (fun y=>SV.agg [SV.arr8 m y]) (by rw [hSp];exact List.take_left' hAl)) ?_
     repeat ((conv=>whnf);refine za ?_)
     exact trivial
    ·repeat ((conv=>whnf);first|refine zn ?_|refine zf ?_|refine zg ?_|refine za ?_|refine zq (by first|exact hd|(rw [hd];rfl)) ?_|refine zi (by first|exact hd|(rw [hd];rfl)) ?_|refine zj (by first|exact hd|(rw [hd];rfl)) ?_)
     conv=>whnf
     refine yq fun x=>?_
     have hRl:(l++x).length=n+x.length:=by rw [List.length_append,←hnl]
     have hT1:List.take ((n:Int)+0-16).toNat (l++x)=l.take (n-16):=by
       rw [hnn,List.take_append_of_le_length (by omega)]
     have hT3:List.drop ((n:Int)+0-16).toNat (l++x)=l.drop (n-16)++x:=by
       rw [hnn,List.drop_append_of_le_length (by omega)]
     have hStr:yv w key nonce=zfu key nonce:=by funext b;unfold yv;rw [if_neg h4]
     have hX:(gst (gW key) (gR key) nonce 2 (List.take ((n:Int)+0-16).toNat (l++x))++List.drop ((n:Int)+0-16).toNat (l++x))=yv w key nonce (l.take (n-16))++(l.drop (n-16)++x):=by
       rw [hT1,hT3,hStr];unfold zfu;rfl
     have hXl:(gst (gW key) (gR key) nonce 2 (List.take ((n:Int)+0-16).toNat (l++x))++List.drop ((n:Int)+0-16).toNat (l++x)).length=n+x.length:=by
       rw [hX,List.length_append,List.length_append,xc,List.length_take,List.length_drop]
       omega
     have hof:(off (yc [] (slO (n+x.length) ((n:Int)+0-16).toNat) ty5.sz))=n-16:=by rw [hnn,zv,xa (by omega)];show 0+(n-16)*1=_;omega
     have hpo:(off (yc [] (slO (n+x.length) ((n:Int)+0-16).toNat) ty5.sz))+(n-((n:Int)+0-16).toNat)≤(gst (gW key) (gR key) nonce 2 (List.take ((n:Int)+0-16).toNat (l++x))++List.drop ((n:Int)+0-16).toNat (l++x)).length:=by rw [hof,hXl,hnn];omega
     have hA1:List.take ((n:Int)+0-16).toNat (gst (gW key) (gR key) nonce 2 (List.take ((n:Int)+0-16).toNat (l++x))++List.drop ((n:Int)+0-16).toNat (l++x))=yv w key nonce (l.take (n-16)):=by
       rw [hX];exact List.take_left' (by rw [xc,List.length_take,hnn];omega)
     have hTg:(gtg (gW key) (gR key) ((gH (gW key) (gR key)).1,(gH (gW key) (gR key)).2) nonce aad (List.take ((n:Int)+0-16).toNat (gst (gW key) (gR key) nonce 2 (List.take ((n:Int)+0-16).toNat (l++x))++List.drop ((n:Int)+0-16).toNat (l++x))))=zap w key nonce aad (yv w key nonce (l.take (n-16))):=by
       rw [hA1];unfold zap;rw [if_neg h4];unfold zgg;rfl
     have hTl:(gtg (gW key) (gR key) ((gH (gW key) (gR key)).1,(gH (gW key) (gR key)).2) nonce aad (List.take ((n:Int)+0-16).toNat (gst (gW key) (gR key) nonce 2 (List.take ((n:Int)+0-16).toNat (l++x))++List.drop ((n:Int)+0-16).toNat (l++x)))).length=16:=by rw [hTg,zaz]
     have hWl:=ztr (key:=key) (by omega)
     have hR7:gR key=key.length/ 4+7:=by unfold gR;rfl
     have hpx:box=box∧nonce.length=12∧1≤gR key∧gR key≤100∧16*gR key≤(gW key).length∧((n:Int)+0-16).toNat≤(l++x).length∧((n:Int)+0-16).toNat≤n+x.length∧((n:Int)+0-16).toNat≤9223372036854775807:=⟨rfl,h1,by omega,by omega,by omega,by omega,by omega,by omega⟩
     have hpt:box=box∧nonce.length=12∧1≤gR key∧gR key≤100∧16*gR key≤(gW key).length∧((n:Int)+0-16).toNat≤(gst (gW key) (gR key) nonce 2 (List.take ((n:Int)+0-16).toNat (l++x))++List.drop ((n:Int)+0-16).toNat (l++x)).length∧((n:Int)+0-16).toNat≤n+x.length∧aad.length≤65536∧((n:Int)+0-16).toNat≤70000:=⟨rfl,h1,by omega,by omega,by omega,by omega,by omega,h2,by omega⟩
     have hSp:(zx (gst (gW key) (gR key) nonce 2 (List.take ((n:Int)+0-16).toNat (l++x))++List.drop ((n:Int)+0-16).toNat (l++x)) (off (yc [] (slO (n+x.length) ((n:Int)+0-16).toNat) ty5.sz)) (List.take (min (gtg (gW key) (gR key) ((gH (gW key) (gR key)).1,(gH (gW key) (gR key)).2) nonce aad (List.take ((n:Int)+0-16).toNat (gst (gW key) (gR key) nonce 2 (List.take ((n:Int)+0-16).toNat (l++x))++List.drop ((n:Int)+0-16).toNat (l++x)))).length (n-((n:Int)+0-16).toNat)) (gtg (gW key) (gR key) ((gH (gW key) (gR key)).1,(gH (gW key) (gR key)).2) nonce aad (List.take ((n:Int)+0-16).toNat (gst (gW key) (gR key) nonce 2 (List.take ((n:Int)+0-16).toNat (l++x))++List.drop ((n:Int)+0-16).toNat (l++x))))))=xl w key nonce aad (l.take (n-16))++x:=by
       rw [hTl,show min 16 (n-((n:Int)+0-16).toNat)=16 by omega,List.take_of_length_le (Nat.le_of_eq hTl),hTg,hof,hX,zav]
       unfold zx
       rw [zaz,List.take_left' (by rw [xc,List.length_take];omega),←List.append_assoc (yv w key nonce _),List.drop_left' (by rw [List.length_append,xc,List.length_take,List.length_drop];omega)]
     have hAl:(xl w key nonce aad (l.take (n-16))).length=n:=by
       rw [zav,List.length_append,zaz,xc,List.length_take];omega
     have hSpl:(zx (gst (gW key) (gR key) nonce 2 (List.take ((n:Int)+0-16).toNat (l++x))++List.drop ((n:Int)+0-16).toNat (l++x)) (off (yc [] (slO (n+x.length) ((n:Int)+0-16).toNat) ty5.sz)) (List.take (min (gtg (gW key) (gR key) ((gH (gW key) (gR key)).1,(gH (gW key) (gR key)).2) nonce aad (List.take ((n:Int)+0-16).toNat (gst (gW key) (gR key) nonce 2 (List.take ((n:Int)+0-16).toNat (l++x))++List.drop ((n:Int)+0-16).toNat (l++x)))).length (n-((n:Int)+0-16).toNat)) (gtg (gW key) (gR key) ((gH (gW key) (gR key)).1,(gH (gW key) (gR key)).2) nonce aad (List.take ((n:Int)+0-16).toNat (gst (gW key) (gR key) nonce 2 (List.take ((n:Int)+0-16).toNat (l++x))++List.drop ((n:Int)+0-16).toNat (l++x)))))).length=n+x.length:=by rw [hSp,List.length_append,hAl]
     have hps:n=n∧n=l.length∧0<n∧n≤100000∧n≤(zx (gst (gW key) (gR key) nonce 2 (List.take ((n:Int)+0-16).toNat (l++x))++List.drop ((n:Int)+0-16).toNat (l++x)) (off (yc [] (slO (n+x.length) ((n:Int)+0-16).toNat) ty5.sz)) (List.take (min (gtg (gW key) (gR key) ((gH (gW key) (gR key)).1,(gH (gW key) (gR key)).2) nonce aad (List.take ((n:Int)+0-16).toNat (gst (gW key) (gR key) nonce 2 (List.take ((n:Int)+0-16).toNat (l++x))++List.drop ((n:Int)+0-16).toNat (l++x)))).length (n-((n:Int)+0-16).toNat)) (gtg (gW key) (gR key) ((gH (gW key) (gR key)).1,(gH (gW key) (gR key)).2) nonce aad (List.take ((n:Int)+0-16).toNat (gst (gW key) (gR key) nonce 2 (List.take ((n:Int)+0-16).toNat (l++x))++List.drop ((n:Int)+0-16).toNat (l++x)))))).length∧n≤n+x.length:=⟨rfl,hnl,by omega,by omega,by omega,by omega⟩
     have hpj:n=l.length∧0<n∧n≤100000:=⟨hnl,by omega,by omega⟩
     refine wk ?_
     refine yl (hp':= [.mk t [.arr8 m (xl w key nonce aad (l.take (n-16)))]]) [0] h ?_
     repeat ((conv=>whnf);refine za ?_)
     conv=>whnf
     refine zh (congrArg (fun y=>SV.agg [SV.arr8 m y]) (by rw [hSp];exact List.take_left' hAl)) ?_
     repeat ((conv=>whnf);refine za ?_)
     exact trivial
   ·exact h.elim
end Go.Sym.A

namespace Go.Sym.A
open Go Go.Proofs.Try Go.Sym.Lp Go.Sym.Cha Go.Sym.Sha Go.Sym.Hk
set_option maxRecDepth 100000
attribute [local irreducible] zb8 exF kyF ivF xl zap yv inL ncF hdF
def z72:List (Nat×List PStep):= [(10,[⟨0,[]⟩,⟨1,[]⟩,⟨2,[]⟩,⟨3,[]⟩,⟨4,[0,1,2,3]⟩,⟨5,[0,1,2,3]⟩,⟨6,[0,1,2,3]⟩,⟨7,[0,1,2,3]⟩,⟨8,[0,1,2,3,4,5,6,7]⟩,⟨10,[0,1,2,3,4,5,6,7,8]⟩,⟨11,[0,1,2,3,4,5,6,7,8,10]⟩,⟨9,[0,1,2,3,4,5,6,7,10,11]⟩,⟨12,[]⟩,⟨13,[]⟩])]
def z86:List (Nat×List PStep):= []
theorem zay (k n:Int):(hdF k n).length=5:=by unfold hdF;rfl
theorem zpn {p n:Int} (hn0:0≤n) (hn:n≤16384) (hp:0≤p):n+1≤inL p n∧inL p n≤16385:=by
  unfold inL
  split
  ·rename_i h0
   have h:=Int.lt_ediv_add_one_mul_self (n+1+p-1) h0
   rw [Int.add_mul,Int.one_mul] at h
   omega
  ·omega
def zaq (p:Int) (kind:Int) (s:List UInt8):List UInt8:=s++UInt8.ofInt kind ::List.replicate ((inL p s.length).toNat-s.length-1) 0
def zy (p w:Int) (key iv:List UInt8) (m kind:Int) (s:List UInt8):List UInt8:=
  hdF 23 ((inL p s.length)+16)++xl w key (ncF iv m) (hdF 23 ((inL p s.length)+16)) (zaq p kind s)
def za7 (w:Int) (key iv:List UInt8) (m:Int):Prop:=su w∧key.length=aSz w∧iv.length=12∧0≤m∧m≤1000000000
theorem zkl {w:Int} {key iv:List UInt8} {m:Int} (h:za7 w key iv m):zf9 w key.length:=by
  obtain ⟨h1,h2,_⟩:=h
  rw [h2]
  unfold zf9 aSz
  rcases h1 with e|e|e<;>subst e<;>simp
theorem zq4 {L:Nat} {s:List UInt8} (h:s.length+1≤L) (k:UInt8) {i:Nat} (hi:i=s.length):(zx (List.replicate (L+16) 0) (off []) (List.take (min s.length (L+16)) s)).set i k=s++k ::List.replicate (L+16-s.length-1) 0:=by
  subst hi
  rw [List.take_of_length_le (show s.length≤min s.length (L+16) by omega)]
  unfold zx
  show (List.take 0 _++s++List.drop (0+s.length) _).set _ _=_
  rw [List.take_zero,List.nil_append,List.drop_replicate,Nat.zero_add,List.set_append_right _ _ (Nat.le_refl _),Nat.sub_self,show L+16-s.length=(L+16-s.length-1)+1 by omega,List.replicate_succ]
  rfl
theorem zlz {L:Nat} {s:List UInt8} (h:s.length+1≤L) (k:UInt8):(s++k ::List.replicate (L+16-s.length-1) 0).take L=s++k ::List.replicate (L-s.length-1) 0:=by
  rw [List.take_append,List.take_of_length_le (by omega),show L-s.length=(L-s.length-1)+1 by omega,List.take_succ_cons,List.take_replicate]
  congr 3
  omega
def zs2:Spec:=fun args hp K=>match args,hp with
  | [.ptr 0 0 0 [],.int kind,.str s],[.mk t0 [.int p,.nilptr,.nilptr,.str held,.int f]]=>Pre (s.length≤140737488351232) (zr (decide (zw kind∧s.length≤16384)) (K (.tup [.str (hdF kind s.length++s),.int 0]) [.mk t0 [.int p,.nilptr,.nilptr,.str held,.int f]]) (K (.tup [.str [],.int 2100]) [.mk t0 [.int p,.nilptr,.nilptr,.str held,.int f]]))
  | [.ptr 0 0 0 [],.int kind,.str s],[.mk t0 [.int p,.nilptr,.ptr 1 0 0 [],.str held,.int f],.mk tkb [.int bw,.str bkey,.str biv,.int bm]]=>Pre (s.length≤140737488351232) (zr (decide (zw kind∧s.length≤16384)) (K (.tup [.str (hdF kind s.length++s),.int 0]) [.mk t0 [.int p,.nilptr,.ptr 1 0 0 [],.str held,.int f],.mk tkb [.int bw,.str bkey,.str biv,.int bm]]) (K (.tup [.str [],.int 2100]) [.mk t0 [.int p,.nilptr,.ptr 1 0 0 [],.str held,.int f],.mk tkb [.int bw,.str bkey,.str biv,.int bm]]))
  | [.ptr 0 0 0 [],.int kind,.str s],[.mk t0 [.int p,.ptr 1 0 0 [],.nilptr,.str held,.int f],.mk tka [.int aw,.str akey,.str aiv,.int am]]=>Pre (za7 aw akey aiv am∧0≤p∧p≤16384∧s.length≤140737488351232) (zr (decide (zw kind∧s.length≤16384)) (K (.tup [.str (zy p aw akey aiv am kind s),.int 0]) [.mk t0 [.int p,.ptr 1 0 0 [],.nilptr,.str held,.int f],.mk tka [.int aw,.str akey,.str aiv,.int (am+1)]]) (K (.tup [.str [],.int 2100]) [.mk t0 [.int p,.ptr 1 0 0 [],.nilptr,.str held,.int f],.mk tka [.int aw,.str akey,.str aiv,.int am]]))
  | [.ptr 0 0 0 [],.int kind,.str s],[.mk t0 [.int p,.ptr 1 0 0 [],.ptr 2 0 0 [],.str held,.int f],.mk tka [.int aw,.str akey,.str aiv,.int am],.mk tkb [.int bw,.str bkey,.str biv,.int bm]]=>Pre (za7 aw akey aiv am∧0≤p∧p≤16384∧s.length≤140737488351232) (zr (decide (zw kind∧s.length≤16384)) (K (.tup [.str (zy p aw akey aiv am kind s),.int 0]) [.mk t0 [.int p,.ptr 1 0 0 [],.ptr 2 0 0 [],.str held,.int f],.mk tka [.int aw,.str akey,.str aiv,.int (am+1)],.mk tkb [.int bw,.str bkey,.str biv,.int bm]]) (K (.tup [.str [],.int 2100]) [.mk t0 [.int p,.ptr 1 0 0 [],.ptr 2 0 0 [],.str held,.int f],.mk tka [.int aw,.str akey,.str aiv,.int am],.mk tkb [.int bw,.str bkey,.str biv,.int bm]]))
  |_,_=>False
set_option maxHeartbeats 4000000 in
theorem z2d:zp prog 57 zs2:=by
  refine zo yi (zd zt5 (zd z26 (zd zz3 (zd zvf (zd zvt zk))))) rfl func57 rfl call57 (D:=z72) ?_ ?_
  ·intro args hp K h
   unfold zs2 at h
   split at h
   ·exact Nat.le_of_ble_eq_true rfl
   ·exact Nat.le_of_ble_eq_true rfl
   ·exact Nat.le_of_ble_eq_true rfl
   ·exact Nat.le_of_ble_eq_true rfl
   ·exact h.elim
  ·intro args hp K h
   unfold zs2 at h
   split at h
   ·rename_i kind s t0 p held f
    obtain ⟨hs,h⟩:=zl h
    obtain ⟨ht,hf⟩:=zu h
    by_cases hk:zw kind
    ·have dk:=decide_eq_true hk
     by_cases hl:s.length≤16384
     ·have h:=ht (decide_eq_true ⟨hk,hl⟩)
      have hhl:=zay kind s.length
      repeat ((conv=>whnf);first|refine zn ?_|refine zf ?_|refine zg ?_|refine za ?_|refine zq (by first|exact dk|(rw [dk];rfl)) ?_|refine zi (by first|exact dk|(rw [dk];rfl)) ?_|refine zj (by first|exact dk|(rw [dk];rfl)) ?_)
      conv=>whnf
      exact ze (hp':= [.mk t0 [.int p,.nilptr,.nilptr,.str held,.int f]]) [0] h
     ·have h:=hf (decide_eq_false fun hh=>hl hh.2)
      repeat ((conv=>whnf);first|refine zn ?_|refine zf ?_|refine zg ?_|refine za ?_|refine zq (by first|exact dk|(rw [dk];rfl)) ?_|refine zi (by first|exact dk|(rw [dk];rfl)) ?_|refine zj (by first|exact dk|(rw [dk];rfl)) ?_)
      conv=>whnf
      exact ze (hp':= [.mk t0 [.int p,.nilptr,.nilptr,.str held,.int f]]) [0] h
    ·have dk:=decide_eq_false hk
     have h:=hf (decide_eq_false fun hh=>hk hh.1)
     repeat ((conv=>whnf);first|refine zn ?_|refine zf ?_|refine zg ?_|refine za ?_|refine zq (by first|exact dk|(rw [dk];rfl)) ?_|refine zi (by first|exact dk|(rw [dk];rfl)) ?_|refine zj (by first|exact dk|(rw [dk];rfl)) ?_)
     conv=>whnf
     exact ze (hp':= [.mk t0 [.int p,.nilptr,.nilptr,.str held,.int f]]) [0] h
   ·rename_i kind s t0 p held f tkb bw bkey biv bm
    obtain ⟨hs,h⟩:=zl h
    obtain ⟨ht,hf⟩:=zu h
    by_cases hk:zw kind
    ·have dk:=decide_eq_true hk
     by_cases hl:s.length≤16384
     ·have h:=ht (decide_eq_true ⟨hk,hl⟩)
      have hhl:=zay kind s.length
      repeat ((conv=>whnf);first|refine zn ?_|refine zf ?_|refine zg ?_|refine za ?_|refine zq (by first|exact dk|(rw [dk];rfl)) ?_|refine zi (by first|exact dk|(rw [dk];rfl)) ?_|refine zj (by first|exact dk|(rw [dk];rfl)) ?_)
      conv=>whnf
      exact ze (hp':= [.mk t0 [.int p,.nilptr,.ptr 1 0 0 [],.str held,.int f],.mk tkb [.int bw,.str bkey,.str biv,.int bm]]) [0,1] h
     ·have h:=hf (decide_eq_false fun hh=>hl hh.2)
      repeat ((conv=>whnf);first|refine zn ?_|refine zf ?_|refine zg ?_|refine za ?_|refine zq (by first|exact dk|(rw [dk];rfl)) ?_|refine zi (by first|exact dk|(rw [dk];rfl)) ?_|refine zj (by first|exact dk|(rw [dk];rfl)) ?_)
      conv=>whnf
      exact ze (hp':= [.mk t0 [.int p,.nilptr,.ptr 1 0 0 [],.str held,.int f],.mk tkb [.int bw,.str bkey,.str biv,.int bm]]) [0,1] h
    ·have dk:=decide_eq_false hk
     have h:=hf (decide_eq_false fun hh=>hk hh.1)
     repeat ((conv=>whnf);first|refine zn ?_|refine zf ?_|refine zg ?_|refine za ?_|refine zq (by first|exact dk|(rw [dk];rfl)) ?_|refine zi (by first|exact dk|(rw [dk];rfl)) ?_|refine zj (by first|exact dk|(rw [dk];rfl)) ?_)
     conv=>whnf
     exact ze (hp':= [.mk t0 [.int p,.nilptr,.ptr 1 0 0 [],.str held,.int f],.mk tkb [.int bw,.str bkey,.str biv,.int bm]]) [0,1] h
   ·rename_i kind s t0 p held f tka aw akey aiv am
    obtain ⟨⟨hok,hp0,hp1,hs⟩,h⟩:=zl h
    obtain ⟨ht,hf⟩:=zu h
    by_cases hk:zw kind
    ·have dk:=decide_eq_true hk
     by_cases hl:s.length≤16384
     ·have h:=ht (decide_eq_true ⟨hk,hl⟩)
      have hky:=zkl hok
      obtain ⟨hw,hkl,hiv,hm0,hm1⟩:=hok
      have hnl:=zn2 aiv am
      have hin:0≤(s.length:Int)∧(s.length:Int)≤16384∧0≤p∧p≤16384:=⟨by omega,by omega,hp0,hp1⟩
      obtain ⟨hi1,hi2⟩:=zpn (p:=p) (n:=(s.length:Int)) (by omega) (by omega) hp0
      obtain ⟨L,hL⟩: ∃L:Nat,inL p (s.length:Int)=(L:Int):=⟨_,(Int.toNat_of_nonneg (by omega)).symm⟩
      have hLn:(inL p (s.length:Int)).toNat=L:=by rw [hL];exact Int.toNat_natCast _
      unfold zy zaq at h
      have hcast:(L:Int)+16=((L+16:Nat):Int):=by omega
      rw [hLn,hL,hcast] at h
      have hLt:((L:Int)+16).toNat=L+16:=by omega
      have hix:off (yc [] ((s.length:Int)).toNat ty5.sz)=s.length:=by rw [zv];show 0+((s.length:Int)).toNat*1=_;omega
      have hsl1:s.length+1≤L:=by omega
      have hB:=zq4 (L:=L) (s:=s) hsl1 (UInt8.ofInt kind) hix
      obtain ⟨BB,hBB⟩: ∃BB,BB=s++UInt8.ofInt kind ::List.replicate (L+16-s.length-1) 0:=⟨_,rfl⟩
      have hBl:BB.length=L+16:=by rw [hBB,List.length_append,List.length_cons,List.length_replicate];omega
      have hBt:BB.take (L+16-16)=s++UInt8.ofInt kind ::List.replicate (L-s.length-1) 0:=by rw [hBB,Nat.add_sub_cancel];exact zlz hsl1 _
      rw [←hBB] at hB
      have hps:off (yc [] ((s.length:Int)).toNat ty5.sz)<(zx (List.replicate (L+16) 0) (off []) (List.take (min s.length (L+16)) s)).length:=by
        have:=congrArg List.length hB
        rw [List.length_set] at this
        rw [hix];omega
      have hhl:=zay 23 ((L+16:Nat):Int)
      have hAl:(xl aw akey (ncF aiv am) (hdF 23 ((L+16:Nat):Int)) (BB.take (L+16-16))).length=L+16:=by
        rw [zav,List.length_append,zaz,xc,List.length_take,hBl];omega
      have hpn:L+16=BB.length∧16≤L+16∧zkq aw akey (ncF aiv am) (hdF 23 ((L+16:Nat):Int)) (((L+16:Nat):Int)+0-16):=⟨hBl.symm,by omega,hky,by rw [hnl,hiv],by omega,by omega⟩
      rw [←hBt] at h
      repeat ((conv=>whnf);first|refine zn ?_|refine zf ?_|refine zg ?_|refine za ?_|refine zq (by first|exact dk|(rw [dk];rfl)) ?_|refine zi (by first|exact dk|(rw [dk];rfl)) ?_|refine zj (by first|exact dk|(rw [dk];rfl)) ?_)
      conv=>whnf
      rw [hL,hLt]
      refine wk ?_
      rw [hB]
      have hpo:off []+(L+16)≤(xl aw akey (ncF aiv am) (hdF 23 ((L+16:Nat):Int)) (BB.take (L+16-16))).length:=by rw [hAl];show 0+_≤_;omega
      have hte:List.take (L+16) (List.drop (off []) (xl aw akey (ncF aiv am) (hdF 23 ((L+16:Nat):Int)) (BB.take (L+16-16))))=xl aw akey (ncF aiv am) (hdF 23 ((L+16:Nat):Int)) (BB.take (L+16-16)):=List.take_of_length_le (Nat.le_of_eq hAl)
      refine wk ?_
      rw [hte]
      refine wk ?_
      conv=>whnf
      exact ze (hp':= [.mk t0 [.int p,.ptr 1 0 0 [],.nilptr,.str held,.int f],.mk tka [.int aw,.str akey,.str aiv,.int (am+1)]]) [0,1] h
     ·have h:=hf (decide_eq_false fun hh=>hl hh.2)
      repeat ((conv=>whnf);first|refine zn ?_|refine zf ?_|refine zg ?_|refine za ?_|refine zq (by first|exact dk|(rw [dk];rfl)) ?_|refine zi (by first|exact dk|(rw [dk];rfl)) ?_|refine zj (by first|exact dk|(rw [dk];rfl)) ?_)
      conv=>whnf
      exact ze (hp':= [.mk t0 [.int p,.ptr 1 0 0 [],.nilptr,.str held,.int f],.mk tka [.int aw,.str akey,.str aiv,.int am]]) [0,1] h
    ·have dk:=decide_eq_false hk
     have h:=hf (decide_eq_false fun hh=>hk hh.1)
     repeat ((conv=>whnf);first|refine zn ?_|refine zf ?_|refine zg ?_|refine za ?_|refine zq (by first|exact dk|(rw [dk];rfl)) ?_|refine zi (by first|exact dk|(rw [dk];rfl)) ?_|refine zj (by first|exact dk|(rw [dk];rfl)) ?_)
     conv=>whnf
     exact ze (hp':= [.mk t0 [.int p,.ptr 1 0 0 [],.nilptr,.str held,.int f],.mk tka [.int aw,.str akey,.str aiv,.int am]]) [0,1] h
   ·rename_i kind s t0 p held f tka aw akey aiv am tkb bw bkey biv bm
    obtain ⟨⟨hok,hp0,hp1,hs⟩,h⟩:=zl h
    obtain ⟨ht,hf⟩:=zu h
    by_cases hk:zw kind
    ·have dk:=decide_eq_true hk
     by_cases hl:s.length≤16384
     ·have h:=ht (decide_eq_true ⟨hk,hl⟩)
      have hky:=zkl hok
      obtain ⟨hw,hkl,hiv,hm0,hm1⟩:=hok
      have hnl:=zn2 aiv am
      have hin:0≤(s.length:Int)∧(s.length:Int)≤16384∧0≤p∧p≤16384:=⟨by omega,by omega,hp0,hp1⟩
      obtain ⟨hi1,hi2⟩:=zpn (p:=p) (n:=(s.length:Int)) (by omega) (by omega) hp0
      obtain ⟨L,hL⟩: ∃L:Nat,inL p (s.length:Int)=(L:Int):=⟨_,(Int.toNat_of_nonneg (by omega)).symm⟩
      have hLn:(inL p (s.length:Int)).toNat=L:=by rw [hL];exact Int.toNat_natCast _
      unfold zy zaq at h
      have hcast:(L:Int)+16=((L+16:Nat):Int):=by omega
      rw [hLn,hL,hcast] at h
      have hLt:((L:Int)+16).toNat=L+16:=by omega
      have hix:off (yc [] ((s.length:Int)).toNat ty5.sz)=s.length:=by rw [zv];show 0+((s.length:Int)).toNat*1=_;omega
      have hsl1:s.length+1≤L:=by omega
      have hB:=zq4 (L:=L) (s:=s) hsl1 (UInt8.ofInt kind) hix
      obtain ⟨BB,hBB⟩: ∃BB,BB=s++UInt8.ofInt kind ::List.replicate (L+16-s.length-1) 0:=⟨_,rfl⟩
      have hBl:BB.length=L+16:=by rw [hBB,List.length_append,List.length_cons,List.length_replicate];omega
      have hBt:BB.take (L+16-16)=s++UInt8.ofInt kind ::List.replicate (L-s.length-1) 0:=by rw [hBB,Nat.add_sub_cancel];exact zlz hsl1 _
      rw [←hBB] at hB
      have hps:off (yc [] ((s.length:Int)).toNat ty5.sz)<(zx (List.replicate (L+16) 0) (off []) (List.take (min s.length (L+16)) s)).length:=by
        have:=congrArg List.length hB
        rw [List.length_set] at this
        rw [hix];omega
      have hhl:=zay 23 ((L+16:Nat):Int)
      have hAl:(xl aw akey (ncF aiv am) (hdF 23 ((L+16:Nat):Int)) (BB.take (L+16-16))).length=L+16:=by
        rw [zav,List.length_append,zaz,xc,List.length_take,hBl];omega
      have hpn:L+16=BB.length∧16≤L+16∧zkq aw akey (ncF aiv am) (hdF 23 ((L+16:Nat):Int)) (((L+16:Nat):Int)+0-16):=⟨hBl.symm,by omega,hky,by rw [hnl,hiv],by omega,by omega⟩
      rw [←hBt] at h
      repeat ((conv=>whnf);first|refine zn ?_|refine zf ?_|refine zg ?_|refine za ?_|refine zq (by first|exact dk|(rw [dk];rfl)) ?_|refine zi (by first|exact dk|(rw [dk];rfl)) ?_|refine zj (by first|exact dk|(rw [dk];rfl)) ?_)
      conv=>whnf
      rw [hL,hLt]
      refine wk ?_
      rw [hB]
      have hpo:off []+(L+16)≤(xl aw akey (ncF aiv am) (hdF 23 ((L+16:Nat):Int)) (BB.take (L+16-16))).length:=by rw [hAl];show 0+_≤_;omega
      have hte:List.take (L+16) (List.drop (off []) (xl aw akey (ncF aiv am) (hdF 23 ((L+16:Nat):Int)) (BB.take (L+16-16))))=xl aw akey (ncF aiv am) (hdF 23 ((L+16:Nat):Int)) (BB.take (L+16-16)):=List.take_of_length_le (Nat.le_of_eq hAl)
      refine wk ?_
      rw [hte]
      refine wk ?_
      conv=>whnf
      exact ze (hp':= [.mk t0 [.int p,.ptr 1 0 0 [],.ptr 2 0 0 [],.str held,.int f],.mk tka [.int aw,.str akey,.str aiv,.int (am+1)],.mk tkb [.int bw,.str bkey,.str biv,.int bm]]) [0,1,2] h
     ·have h:=hf (decide_eq_false fun hh=>hl hh.2)
      repeat ((conv=>whnf);first|refine zn ?_|refine zf ?_|refine zg ?_|refine za ?_|refine zq (by first|exact dk|(rw [dk];rfl)) ?_|refine zi (by first|exact dk|(rw [dk];rfl)) ?_|refine zj (by first|exact dk|(rw [dk];rfl)) ?_)
      conv=>whnf
      exact ze (hp':= [.mk t0 [.int p,.ptr 1 0 0 [],.ptr 2 0 0 [],.str held,.int f],.mk tka [.int aw,.str akey,.str aiv,.int am],.mk tkb [.int bw,.str bkey,.str biv,.int bm]]) [0,1,2] h
    ·have dk:=decide_eq_false hk
     have h:=hf (decide_eq_false fun hh=>hk hh.1)
     repeat ((conv=>whnf);first|refine zn ?_|refine zf ?_|refine zg ?_|refine za ?_|refine zq (by first|exact dk|(rw [dk];rfl)) ?_|refine zi (by first|exact dk|(rw [dk];rfl)) ?_|refine zj (by first|exact dk|(rw [dk];rfl)) ?_)
     conv=>whnf
     exact ze (hp':= [.mk t0 [.int p,.ptr 1 0 0 [],.ptr 2 0 0 [],.str held,.int f],.mk tka [.int aw,.str akey,.str aiv,.int am],.mk tkb [.int bw,.str bkey,.str biv,.int bm]]) [0,1,2] h
   ·exact h.elim
def zo4:Spec:=fun args hp K=>match args,hp with
  | [.ptr 0 0 0 [],.int kind,.str s],[.mk t0 [.int p,.nilptr,.nilptr,.str held,.int f]]=>Pre (s.length≤140737488351232) (zr (decide (zw kind∧s.length≤16384)) (K (.tup [.str (hdF kind s.length++s),.int 0]) [.mk t0 [.int p,.nilptr,.nilptr,.str held,.int f]]) (K (.tup [.str [],.int 2100]) [.mk t0 [.int p,.nilptr,.nilptr,.str held,.int f]]))
  | [.ptr 0 0 0 [],.int kind,.str s],[.mk t0 [.int p,.nilptr,.ptr 1 0 0 [],.str held,.int f],.mk tkb [.int bw,.str bkey,.str biv,.int bm]]=>Pre (s.length≤140737488351232) (zr (decide (zw kind∧s.length≤16384)) (K (.tup [.str (hdF kind s.length++s),.int 0]) [.mk t0 [.int p,.nilptr,.ptr 1 0 0 [],.str held,.int f],.mk tkb [.int bw,.str bkey,.str biv,.int bm]]) (K (.tup [.str [],.int 2100]) [.mk t0 [.int p,.nilptr,.ptr 1 0 0 [],.str held,.int f],.mk tkb [.int bw,.str bkey,.str biv,.int bm]]))
  | [.ptr 0 0 0 [],.int kind,.str s],[.mk t0 [.int p,.ptr 1 0 0 [],.nilptr,.str held,.int f],.mk tka [.int aw,.str akey,.str aiv,.int am]]=>Pre (za7 aw akey aiv am∧0≤p∧p≤16384∧s.length≤140737488351232) (zr (decide (zw kind∧s.length≤16384)) (K (.tup [.str (zy p aw akey aiv am kind s),.int 0]) [.mk t0 [.int p,.ptr 1 0 0 [],.nilptr,.str held,.int f],.mk tka [.int aw,.str akey,.str aiv,.int (am+1)]]) (K (.tup [.str [],.int 2100]) [.mk t0 [.int p,.ptr 1 0 0 [],.nilptr,.str held,.int f],.mk tka [.int aw,.str akey,.str aiv,.int am]]))
  | [.ptr 0 0 0 [],.int kind,.str s],[.mk t0 [.int p,.ptr 1 0 0 [],.ptr 2 0 0 [],.str held,.int f],.mk tka [.int aw,.str akey,.str aiv,.int am],.mk tkb [.int bw,.str bkey,.str biv,.int bm]]=>Pre (za7 aw akey aiv am∧0≤p∧p≤16384∧s.length≤140737488351232) (zr (decide (zw kind∧s.length≤16384)) (K (.tup [.str (zy p aw akey aiv am kind s),.int 0]) [.mk t0 [.int p,.ptr 1 0 0 [],.ptr 2 0 0 [],.str held,.int f],.mk tka [.int aw,.str akey,.str aiv,.int (am+1)],.mk tkb [.int bw,.str bkey,.str biv,.int bm]]) (K (.tup [.str [],.int 2100]) [.mk t0 [.int p,.ptr 1 0 0 [],.ptr 2 0 0 [],.str held,.int f],.mk tka [.int aw,.str akey,.str aiv,.int am],.mk tkb [.int bw,.str bkey,.str biv,.int bm]]))
  |_,_=>False
set_option maxHeartbeats 4000000 in
theorem zud:zp prog 31 zo4:=by
  refine zo yi (zd z2d zk) rfl func31 rfl call31 (D:=z86) ?_ ?_
  ·intro args hp K h
   unfold zo4 at h
   split at h
   ·exact Nat.le_of_ble_eq_true rfl
   ·exact Nat.le_of_ble_eq_true rfl
   ·exact Nat.le_of_ble_eq_true rfl
   ·exact Nat.le_of_ble_eq_true rfl
   ·exact h.elim
  ·intro args hp K h
   unfold zo4 at h
   split at h
   ·rename_i kind s t0 p held f
    obtain ⟨hpre,h⟩:=zl h
    obtain ⟨ht,hf⟩:=zu h
    generalize e:decide (zw kind∧s.length≤16384)=c at ht hf
    cases c
    ·have h:=hf rfl
     repeat ((conv=>whnf);first|refine zn ?_|refine zf ?_|refine zg ?_|refine za ?_|refine zq (by first|exact e) ?_|refine zi (by first|exact e) ?_|refine zj (by first|exact e) ?_)
     conv=>whnf
     exact ze (hp':= [.mk t0 [.int p,.nilptr,.nilptr,.str held,.int f]]) [0] h
    ·have h:=ht rfl
     repeat ((conv=>whnf);first|refine zn ?_|refine zf ?_|refine zg ?_|refine za ?_|refine zq (by first|exact e) ?_|refine zi (by first|exact e) ?_|refine zj (by first|exact e) ?_)
     conv=>whnf
     exact ze (hp':= [.mk t0 [.int p,.nilptr,.nilptr,.str held,.int f]]) [0] h
   ·rename_i kind s t0 p held f tkb bw bkey biv bm
    obtain ⟨hpre,h⟩:=zl h
    obtain ⟨ht,hf⟩:=zu h
    generalize e:decide (zw kind∧s.length≤16384)=c at ht hf
    cases c
    ·have h:=hf rfl
     repeat ((conv=>whnf);first|refine zn ?_|refine zf ?_|refine zg ?_|refine za ?_|refine zq (by first|exact e) ?_|refine zi (by first|exact e) ?_|refine zj (by first|exact e) ?_)
     conv=>whnf
     exact ze (hp':= [.mk t0 [.int p,.nilptr,.ptr 1 0 0 [],.str held,.int f],.mk tkb [.int bw,.str bkey,.str biv,.int bm]]) [0,1] h
    ·have h:=ht rfl
     repeat ((conv=>whnf);first|refine zn ?_|refine zf ?_|refine zg ?_|refine za ?_|refine zq (by first|exact e) ?_|refine zi (by first|exact e) ?_|refine zj (by first|exact e) ?_)
     conv=>whnf
     exact ze (hp':= [.mk t0 [.int p,.nilptr,.ptr 1 0 0 [],.str held,.int f],.mk tkb [.int bw,.str bkey,.str biv,.int bm]]) [0,1] h
   ·rename_i kind s t0 p held f tka aw akey aiv am
    obtain ⟨hpre,h⟩:=zl h
    obtain ⟨ht,hf⟩:=zu h
    generalize e:decide (zw kind∧s.length≤16384)=c at ht hf
    cases c
    ·have h:=hf rfl
     repeat ((conv=>whnf);first|refine zn ?_|refine zf ?_|refine zg ?_|refine za ?_|refine zq (by first|exact e) ?_|refine zi (by first|exact e) ?_|refine zj (by first|exact e) ?_)
     conv=>whnf
     exact ze (hp':= [.mk t0 [.int p,.ptr 1 0 0 [],.nilptr,.str held,.int f],.mk tka [.int aw,.str akey,.str aiv,.int am]]) [0,1] h
    ·have h:=ht rfl
     repeat ((conv=>whnf);first|refine zn ?_|refine zf ?_|refine zg ?_|refine za ?_|refine zq (by first|exact e) ?_|refine zi (by first|exact e) ?_|refine zj (by first|exact e) ?_)
     conv=>whnf
     exact ze (hp':= [.mk t0 [.int p,.ptr 1 0 0 [],.nilptr,.str held,.int f],.mk tka [.int aw,.str akey,.str aiv,.int (am+1)]]) [0,1] h
   ·rename_i kind s t0 p held f tka aw akey aiv am tkb bw bkey biv bm
    obtain ⟨hpre,h⟩:=zl h
    obtain ⟨ht,hf⟩:=zu h
    generalize e:decide (zw kind∧s.length≤16384)=c at ht hf
    cases c
    ·have h:=hf rfl
     repeat ((conv=>whnf);first|refine zn ?_|refine zf ?_|refine zg ?_|refine za ?_|refine zq (by first|exact e) ?_|refine zi (by first|exact e) ?_|refine zj (by first|exact e) ?_)
     conv=>whnf
     exact ze (hp':= [.mk t0 [.int p,.ptr 1 0 0 [],.ptr 2 0 0 [],.str held,.int f],.mk tka [.int aw,.str akey,.str aiv,.int am],.mk tkb [.int bw,.str bkey,.str biv,.int bm]]) [0,1,2] h
    ·have h:=ht rfl
     repeat ((conv=>whnf);first|refine zn ?_|refine zf ?_|refine zg ?_|refine za ?_|refine zq (by first|exact e) ?_|refine zi (by first|exact e) ?_|refine zj (by first|exact e) ?_)
     conv=>whnf
     exact ze (hp':= [.mk t0 [.int p,.ptr 1 0 0 [],.ptr 2 0 0 [],.str held,.int f],.mk tka [.int aw,.str akey,.str aiv,.int (am+1)],.mk tkb [.int bw,.str bkey,.str biv,.int bm]]) [0,1,2] h
   ·exact h.elim
end Go.Sym.A
