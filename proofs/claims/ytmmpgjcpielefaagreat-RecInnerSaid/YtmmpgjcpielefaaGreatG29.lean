/-
  Contracts of functions of the program, each said of symbolic values, and plain laws; no condition beyond each statement's own.
-/
import Derived.Test.YtmmpgjcpielefaaGreatG28
import Derived.Test.YtmmpgjcpielefaaGreatG23
import Derived.Test.YtmmpgjcpielefaaGreatG25
set_option linter.unusedSimpArgs false
set_option linter.unusedVariables false
namespace Go.Sym.Z
open Go Go.Proofs.Tryz Go.Sym.Lp Go.Sym.Cha Go.Sym.Sha Go.Sym.Hk
set_option maxRecDepth 100000
attribute [local irreducible] xb KC HB zam wrH wrR x4 zei bk
def yf2:List (Nat×List PStep):= [(6,[⟨0,[]⟩,⟨1,[]⟩,⟨2,[0,1]⟩,⟨3,[0,1]⟩,⟨4,[2,3]⟩,⟨5,[]⟩]),(15,[⟨0,[]⟩,⟨1,[]⟩,⟨2,[0,1]⟩,⟨3,[0,1]⟩,⟨4,[2,3]⟩,⟨5,[]⟩])]
def yhu:List (Nat×TyI):= [(3,ty3),(4,ty4),(5,ty5),(9,ty9),(48,zd3),(51,zd6),(113,xu),(99,xm),(248,zfx),(207,zfv),(209,zhf)]
theorem zdi: ∀t i,y9 yhu t=some i→yx prog t i:=(zd zda (zd zc8 (zd zc9 (zd zdf (zd zbq (zd zbr (zd zbh (zd zcx (zd zug (zd zt1 (zd z6p zau)))))))))))
theorem zjx (key:List UInt8) (N i:Nat):(key++List.replicate (N-key.length) 0).getD i 0=key.getD i 0:=by
  rw [List.getD_eq_getElem?_getD,List.getD_eq_getElem?_getD]
  by_cases h:i<key.length
  ·rw [List.getElem?_append_left h]
  ·rw [List.getElem?_append_right (by omega),List.getElem?_eq_none (show key.length≤i by omega),List.getElem?_replicate]
   split<;>rfl
theorem zfa {key:List UInt8} {N:Nat} (h:key.length≤N):z9 (List.replicate N 0) (off []) (List.take (min key.length N) key)=key++List.replicate (N-key.length) 0:=by
  rw [List.take_of_length_le (show key.length≤min key.length N by omega)]
  unfold z9
  show List.take 0 _++key++List.drop (0+key.length) _=_
  rw [List.take_zero,List.nil_append,List.drop_replicate,Nat.zero_add]
def z6w:Spec:=fun args hp K=>match args,hp with
  | [.int n,.str key],[]=>Pre ((n=256∨n=384)∧key.length≤140737488351232) (K (.tup [.str (pdX (bk n) (kN n key) 54),.str (pdX (bk n) (kN n key) 92)]) [])
  |_,_=>False
set_option maxHeartbeats 4000000 in
theorem yca:zm prog 171 z6w:=by
  refine zk zdi (zc z38 zg) rfl func171 rfl call171 (D:=yf2) ?_ ?_
  ·intro args hp K h
   unfold z6w at h
   split at h
   ·exact Nat.le_of_ble_eq_true rfl
   ·exact h.elim
  ·intro args hp K h
   unfold z6w at h
   split at h
   ·rename_i n key
    obtain ⟨⟨hn,hk⟩,h⟩:=zl h
    have hn2:=hn
    rcases hn with hn|hn
    ·have hb:bk n=64:=by unfold bk;rw [if_pos hn]
     have hp4:(4:Int)≠0∧yb (n.tdiv 4):=by rw [hn];exact ⟨by decide,by unfold yb;decide⟩
     have hd4:n.tdiv 4=64:=by rw [hn];rfl
     have hps:(n=256∨n=384)∧key.length≤140737488351232:=⟨hn2,hk⟩
     by_cases hl:64<key.length
     ·have hX:kN n key=(x4 n key):=by unfold kN;rw [hb];exact if_pos hl
      rw [hX] at h
      have hXl:(x4 n key).length≤64:=by rw [zmr hn2];unfold dl;split<;>omega
      obtain ⟨Y,hY⟩: ∃Y,Y=(x4 n key):=⟨_,rfl⟩
      rw [←hY] at h hXl
      obtain ⟨KP,hKP⟩: ∃KP,KP=Y++List.replicate (64-Y.length) 0:=⟨_,rfl⟩
      have hKl:KP.length=64:=by rw [hKP,List.length_append,List.length_replicate];omega
      have hKg: ∀i,KP.getD i 0=Y.getD i 0:=fun i=>by rw [hKP];exact zjx Y 64 i
      have hsp:=zfa hXl
      rw [←hKP] at hsp
      refine za ?_
      rw [hd4]
      rw [←hY]
      rw [show z9 (List.replicate (Int.toNat 64) 0) (off []) (List.take (min Y.length (Int.toNat 64)) Y)=KP from hsp]
      refine zp (Ix (64)) (fun q=>⟨[(7,.sl 0 0 0 [] 64 64),(8,.sl 1 0 0 [] 64 64),(34,.int 64),(35,.int q.i)],[.mk 5 [.arr8 64 (ovr KP 0 (fun i=>KP.getD i 0^^^54) q.i)],.mk 5 [.arr8 64 (ovr KP 0 (fun i=>KP.getD i 0^^^92) q.i)]]⟩) (fun q=>(64)-q.i) ⟨0,Nat.zero_le _⟩ [0,1] ?_ ?_
      ·exact zt
      ·intro q
       have hi:=q.hi
       have h1:=yc (l:=KP) (a:=0) (i:=q.i) (by omega) (fun i=>KP.getD i 0^^^54)
       have h2:=yc (l:=KP) (a:=0) (i:=q.i) (by omega) (fun i=>KP.getD i 0^^^92)
       have hI:((q.i:Int)).toNat=q.i:=Int.toNat_natCast _
       by_cases h4:q.i<64
       ·refine za ?_
        refine ⟨⟨q.i+1,h4⟩,[0,1],by show (64)-(q.i+1)<(64)-q.i;omega,?_⟩
        repeat ((conv=>whnf);refine zb ?_)
        conv=>whnf
        refine zq (congrArg (fun x=>SV.agg [SV.arr8 64 x]) (z8 (by omega) ?hv ?hkk)) ?_
        case hkk=>show ((q.i:Int)).toNat=0+q.i;omega
        case hv=>show (ovr KP 0 _ q.i).getD ((q.i:Int)).toNat 0^^^UInt8.ofNat 54=_;rw [hI,yp (by omega) _ (by omega)];rfl
        repeat ((conv=>whnf);refine zb ?_)
        conv=>whnf
        refine zq (congrArg (fun x=>SV.agg [SV.arr8 64 x]) (z8 (by omega) ?hv ?hkk)) ?_
        case hkk=>show ((q.i:Int)).toNat=0+q.i;omega
        case hv=>show (ovr KP 0 _ q.i).getD ((q.i:Int)).toNat 0^^^UInt8.ofNat 92=_;rw [hI,yp (by omega) _ (by omega)];rfl
        exact zt
       ·have e4:q.i=64:=by omega
        have hp: ∀b,ovr KP 0 (fun i=>KP.getD i 0^^^b) 64=pdX (bk n) Y b:=fun b=>by
          rw [yy hKl,hb];unfold pdX
          exact yi fun i _=>by rw [hKg]
        have hq: ∀b,List.take 64 (List.drop (off []) (pdX (bk n) Y b))=pdX (bk n) Y b:=fun b=>List.take_of_length_le (by show (pdX (bk n) Y b).length≤_;rw [zar,hb];exact Nat.le_refl _)
        have hl3: ∀b,off []+64≤(pdX (bk n) Y b).length:=fun b=>by rw [zar,hb];show 0+64≤64;exact Nat.le_of_eq (Nat.zero_add _)
        have hl54:=hl3 54
        have hl92:=hl3 92
        rw [e4,hp 54,hp 92]
        refine za ?_
        rw [hq 54,hq 92]
        conv=>whnf
        exact ze [] h
     ·have hX:kN n key=key:=by unfold kN;rw [hb];exact if_neg hl
      rw [hX] at h
      have hXl:key.length≤64:=by omega
      obtain ⟨Y,hY⟩: ∃Y,Y=key:=⟨_,rfl⟩
      rw [←hY] at h hXl
      obtain ⟨KP,hKP⟩: ∃KP,KP=Y++List.replicate (64-Y.length) 0:=⟨_,rfl⟩
      have hKl:KP.length=64:=by rw [hKP,List.length_append,List.length_replicate];omega
      have hKg: ∀i,KP.getD i 0=Y.getD i 0:=fun i=>by rw [hKP];exact zjx Y 64 i
      have hsp:=zfa hXl
      rw [←hKP] at hsp
      refine za ?_
      rw [hd4]
      rw [←hY]
      rw [show z9 (List.replicate (Int.toNat 64) 0) (off []) (List.take (min Y.length (Int.toNat 64)) Y)=KP from hsp]
      refine zp (Ix (64)) (fun q=>⟨[(7,.sl 0 0 0 [] 64 64),(8,.sl 1 0 0 [] 64 64),(34,.int 64),(35,.int q.i)],[.mk 5 [.arr8 64 (ovr KP 0 (fun i=>KP.getD i 0^^^54) q.i)],.mk 5 [.arr8 64 (ovr KP 0 (fun i=>KP.getD i 0^^^92) q.i)]]⟩) (fun q=>(64)-q.i) ⟨0,Nat.zero_le _⟩ [0,1] ?_ ?_
      ·exact zt
      ·intro q
       have hi:=q.hi
       have h1:=yc (l:=KP) (a:=0) (i:=q.i) (by omega) (fun i=>KP.getD i 0^^^54)
       have h2:=yc (l:=KP) (a:=0) (i:=q.i) (by omega) (fun i=>KP.getD i 0^^^92)
       have hI:((q.i:Int)).toNat=q.i:=Int.toNat_natCast _
       by_cases h4:q.i<64
       ·refine za ?_
        refine ⟨⟨q.i+1,h4⟩,[0,1],by show (64)-(q.i+1)<(64)-q.i;omega,?_⟩
        repeat ((conv=>whnf);refine zb ?_)
        conv=>whnf
        refine zq (congrArg (fun x=>SV.agg [SV.arr8 64 x]) (z8 (by omega) ?hv ?hkk)) ?_
        case hkk=>show ((q.i:Int)).toNat=0+q.i;omega
        case hv=>show (ovr KP 0 _ q.i).getD ((q.i:Int)).toNat 0^^^UInt8.ofNat 54=_;rw [hI,yp (by omega) _ (by omega)];rfl
        repeat ((conv=>whnf);refine zb ?_)
        conv=>whnf
        refine zq (congrArg (fun x=>SV.agg [SV.arr8 64 x]) (z8 (by omega) ?hv ?hkk)) ?_
        case hkk=>show ((q.i:Int)).toNat=0+q.i;omega
        case hv=>show (ovr KP 0 _ q.i).getD ((q.i:Int)).toNat 0^^^UInt8.ofNat 92=_;rw [hI,yp (by omega) _ (by omega)];rfl
        exact zt
       ·have e4:q.i=64:=by omega
        have hp: ∀b,ovr KP 0 (fun i=>KP.getD i 0^^^b) 64=pdX (bk n) Y b:=fun b=>by
          rw [yy hKl,hb];unfold pdX
          exact yi fun i _=>by rw [hKg]
        have hq: ∀b,List.take 64 (List.drop (off []) (pdX (bk n) Y b))=pdX (bk n) Y b:=fun b=>List.take_of_length_le (by show (pdX (bk n) Y b).length≤_;rw [zar,hb];exact Nat.le_refl _)
        have hl3: ∀b,off []+64≤(pdX (bk n) Y b).length:=fun b=>by rw [zar,hb];show 0+64≤64;exact Nat.le_of_eq (Nat.zero_add _)
        have hl54:=hl3 54
        have hl92:=hl3 92
        rw [e4,hp 54,hp 92]
        refine za ?_
        rw [hq 54,hq 92]
        conv=>whnf
        exact ze [] h
    ·have hb:bk n=128:=by unfold bk;rw [if_neg (by omega)]
     have hp4:(4:Int)≠0∧yb (n.tdiv 4):=by rw [hn];exact ⟨by decide,by unfold yb;decide⟩
     have hd4:n.tdiv 4=96:=by rw [hn];rfl
     have hps:(n=256∨n=384)∧key.length≤140737488351232:=⟨hn2,hk⟩
     by_cases hl:128<key.length
     ·have hX:kN n key=(x4 n key):=by unfold kN;rw [hb];exact if_pos hl
      rw [hX] at h
      have hXl:(x4 n key).length≤128:=by rw [zmr hn2];unfold dl;split<;>omega
      obtain ⟨Y,hY⟩: ∃Y,Y=(x4 n key):=⟨_,rfl⟩
      rw [←hY] at h hXl
      obtain ⟨KP,hKP⟩: ∃KP,KP=Y++List.replicate (128-Y.length) 0:=⟨_,rfl⟩
      have hKl:KP.length=128:=by rw [hKP,List.length_append,List.length_replicate];omega
      have hKg: ∀i,KP.getD i 0=Y.getD i 0:=fun i=>by rw [hKP];exact zjx Y 128 i
      have hsp:=zfa hXl
      rw [←hKP] at hsp
      refine za ?_
      skip
      rw [←hY]
      rw [show z9 (List.replicate (Int.toNat 128) 0) (off []) (List.take (min Y.length (Int.toNat 128)) Y)=KP from hsp]
      refine zp (Ix (128)) (fun q=>⟨[(7,.sl 0 0 0 [] 128 128),(8,.sl 1 0 0 [] 128 128),(34,.int 128),(35,.int q.i)],[.mk 5 [.arr8 128 (ovr KP 0 (fun i=>KP.getD i 0^^^54) q.i)],.mk 5 [.arr8 128 (ovr KP 0 (fun i=>KP.getD i 0^^^92) q.i)]]⟩) (fun q=>(128)-q.i) ⟨0,Nat.zero_le _⟩ [0,1] ?_ ?_
      ·exact zt
      ·intro q
       have hi:=q.hi
       have h1:=yc (l:=KP) (a:=0) (i:=q.i) (by omega) (fun i=>KP.getD i 0^^^54)
       have h2:=yc (l:=KP) (a:=0) (i:=q.i) (by omega) (fun i=>KP.getD i 0^^^92)
       have hI:((q.i:Int)).toNat=q.i:=Int.toNat_natCast _
       by_cases h4:q.i<128
       ·refine za ?_
        refine ⟨⟨q.i+1,h4⟩,[0,1],by show (128)-(q.i+1)<(128)-q.i;omega,?_⟩
        repeat ((conv=>whnf);refine zb ?_)
        conv=>whnf
        refine zq (congrArg (fun x=>SV.agg [SV.arr8 128 x]) (z8 (by omega) ?hv ?hkk)) ?_
        case hkk=>show ((q.i:Int)).toNat=0+q.i;omega
        case hv=>show (ovr KP 0 _ q.i).getD ((q.i:Int)).toNat 0^^^UInt8.ofNat 54=_;rw [hI,yp (by omega) _ (by omega)];rfl
        repeat ((conv=>whnf);refine zb ?_)
        conv=>whnf
        refine zq (congrArg (fun x=>SV.agg [SV.arr8 128 x]) (z8 (by omega) ?hv ?hkk)) ?_
        case hkk=>show ((q.i:Int)).toNat=0+q.i;omega
        case hv=>show (ovr KP 0 _ q.i).getD ((q.i:Int)).toNat 0^^^UInt8.ofNat 92=_;rw [hI,yp (by omega) _ (by omega)];rfl
        exact zt
       ·have e4:q.i=128:=by omega
        have hp: ∀b,ovr KP 0 (fun i=>KP.getD i 0^^^b) 128=pdX (bk n) Y b:=fun b=>by
          rw [yy hKl,hb];unfold pdX
          exact yi fun i _=>by rw [hKg]
        have hq: ∀b,List.take 128 (List.drop (off []) (pdX (bk n) Y b))=pdX (bk n) Y b:=fun b=>List.take_of_length_le (by show (pdX (bk n) Y b).length≤_;rw [zar,hb];exact Nat.le_refl _)
        have hl3: ∀b,off []+128≤(pdX (bk n) Y b).length:=fun b=>by rw [zar,hb];show 0+128≤128;exact Nat.le_of_eq (Nat.zero_add _)
        have hl54:=hl3 54
        have hl92:=hl3 92
        rw [e4,hp 54,hp 92]
        refine za ?_
        rw [hq 54,hq 92]
        conv=>whnf
        exact ze [] h
     ·have hX:kN n key=key:=by unfold kN;rw [hb];exact if_neg hl
      rw [hX] at h
      have hXl:key.length≤128:=by omega
      obtain ⟨Y,hY⟩: ∃Y,Y=key:=⟨_,rfl⟩
      rw [←hY] at h hXl
      obtain ⟨KP,hKP⟩: ∃KP,KP=Y++List.replicate (128-Y.length) 0:=⟨_,rfl⟩
      have hKl:KP.length=128:=by rw [hKP,List.length_append,List.length_replicate];omega
      have hKg: ∀i,KP.getD i 0=Y.getD i 0:=fun i=>by rw [hKP];exact zjx Y 128 i
      have hsp:=zfa hXl
      rw [←hKP] at hsp
      refine za ?_
      skip
      rw [←hY]
      rw [show z9 (List.replicate (Int.toNat 128) 0) (off []) (List.take (min Y.length (Int.toNat 128)) Y)=KP from hsp]
      refine zp (Ix (128)) (fun q=>⟨[(7,.sl 0 0 0 [] 128 128),(8,.sl 1 0 0 [] 128 128),(34,.int 128),(35,.int q.i)],[.mk 5 [.arr8 128 (ovr KP 0 (fun i=>KP.getD i 0^^^54) q.i)],.mk 5 [.arr8 128 (ovr KP 0 (fun i=>KP.getD i 0^^^92) q.i)]]⟩) (fun q=>(128)-q.i) ⟨0,Nat.zero_le _⟩ [0,1] ?_ ?_
      ·exact zt
      ·intro q
       have hi:=q.hi
       have h1:=yc (l:=KP) (a:=0) (i:=q.i) (by omega) (fun i=>KP.getD i 0^^^54)
       have h2:=yc (l:=KP) (a:=0) (i:=q.i) (by omega) (fun i=>KP.getD i 0^^^92)
       have hI:((q.i:Int)).toNat=q.i:=Int.toNat_natCast _
       by_cases h4:q.i<128
       ·refine za ?_
        refine ⟨⟨q.i+1,h4⟩,[0,1],by show (128)-(q.i+1)<(128)-q.i;omega,?_⟩
        repeat ((conv=>whnf);refine zb ?_)
        conv=>whnf
        refine zq (congrArg (fun x=>SV.agg [SV.arr8 128 x]) (z8 (by omega) ?hv ?hkk)) ?_
        case hkk=>show ((q.i:Int)).toNat=0+q.i;omega
        case hv=>show (ovr KP 0 _ q.i).getD ((q.i:Int)).toNat 0^^^UInt8.ofNat 54=_;rw [hI,yp (by omega) _ (by omega)];rfl
        repeat ((conv=>whnf);refine zb ?_)
        conv=>whnf
        refine zq (congrArg (fun x=>SV.agg [SV.arr8 128 x]) (z8 (by omega) ?hv ?hkk)) ?_
        case hkk=>show ((q.i:Int)).toNat=0+q.i;omega
        case hv=>show (ovr KP 0 _ q.i).getD ((q.i:Int)).toNat 0^^^UInt8.ofNat 92=_;rw [hI,yp (by omega) _ (by omega)];rfl
        exact zt
       ·have e4:q.i=128:=by omega
        have hp: ∀b,ovr KP 0 (fun i=>KP.getD i 0^^^b) 128=pdX (bk n) Y b:=fun b=>by
          rw [yy hKl,hb];unfold pdX
          exact yi fun i _=>by rw [hKg]
        have hq: ∀b,List.take 128 (List.drop (off []) (pdX (bk n) Y b))=pdX (bk n) Y b:=fun b=>List.take_of_length_le (by show (pdX (bk n) Y b).length≤_;rw [zar,hb];exact Nat.le_refl _)
        have hl3: ∀b,off []+128≤(pdX (bk n) Y b).length:=fun b=>by rw [zar,hb];show 0+128≤128;exact Nat.le_of_eq (Nat.zero_add _)
        have hl54:=hl3 54
        have hl92:=hl3 92
        rw [e4,hp 54,hp 92]
        refine za ?_
        rw [hq 54,hq 92]
        conv=>whnf
        exact ze [] h
   ·exact h.elim
end Go.Sym.Z

namespace Go.Sym.Z
open Go Go.Proofs.Tryz Go.Sym.Lp Go.Sym.Cha Go.Sym.Sha Go.Sym.Hk
set_option maxRecDepth 100000
attribute [local irreducible] xb KC HB zam wrH wrR x4 zei bk kN pdX
def ydx:List (Nat×List PStep):= []
def yd0:List (Nat×List PStep):= [(1,[⟨0,[]⟩,⟨1,[]⟩,⟨3,[0,1]⟩,⟨4,[0,1]⟩,⟨2,[3,4]⟩,⟨5,[]⟩,⟨6,[]⟩,⟨7,[]⟩])]
theorem ztp {n:Int} {x:List UInt8} (h:x.length=bk n):(wrR n [] x).length=0:=by
  rw [zfn,h,List.length_nil,Nat.zero_add,Nat.mod_self]
def zsc:Spec:=fun args hp K=>match args,hp with
  | [.int n,.str key],[]=>Pre (key.length≤140737488351232)
      (zx (decide (n=256∨n=384))
        (K (.tup [.agg [.ptr 0 0 0 [],.ptr 1 0 0 []],.int 0]) [.mk 248 [.int n,.arr64 8 (mP n key 54),.arr64 80 KC,.nilsl,.u64 (UInt64.ofNat (bk n))],.mk 248 [.int n,.arr64 8 (mP n key 92),.arr64 80 KC,.nilsl,.u64 (UInt64.ofNat (bk n))]])
        (K (.tup [.agg [.nilptr,.nilptr],.int 300]) []))
  |_,_=>False
theorem z4x:zm prog 156 zsc:=by
  refine zk zdi (zc z27 (zc yca (zc zjk zg))) rfl func156 rfl call156 (D:=ydx) ?_ ?_
  ·intro args hp K h
   unfold zsc at h
   split at h
   ·exact Nat.le_of_ble_eq_true rfl
   ·exact h.elim
  ·intro args hp K h
   unfold zsc at h
   split at h
   ·rename_i n key
    obtain ⟨hk,h⟩:=zl h
    obtain ⟨ht,hf⟩:=zy h
    by_cases hn:n=256∨n=384
    ·have h:=ht (decide_eq_true hn)
     have hd:=decide_eq_true hn
     have hkc:=zm0
     have hl:=zoy n
     have hp:=And.intro hn hk
     have hbk:bk n≤128:=by unfold bk;split<;>omega
     have hx1:=zar (bk n) (kN n key) 54
     have hx2:=zar (bk n) (kN n key) 92
     have hz1:=ztp hx1
     have hz2:=ztp hx2
     have ha:(0:UInt64)+UInt64.ofNat (bk n)=UInt64.ofNat (bk n):=UInt64.zero_add _
     repeat ((conv=>whnf);first|refine zu ?_|refine zi ?_|refine zj ?_|refine zb ?_|refine zw (by first|exact hd) ?_|refine zo (by first|exact hd) ?_|refine zn (by first|exact hd) ?_)
     conv=>whnf
     rw [hx1,hx2,ha]
     conv=>whnf
     exact ze [1,2] h
    ·have h:=hf (decide_eq_false hn)
     have hd:=decide_eq_false hn
     repeat ((conv=>whnf);first|refine zu ?_|refine zi ?_|refine zj ?_|refine zb ?_|refine zw (by first|exact hd) ?_|refine zo (by first|exact hd) ?_|refine zn (by first|exact hd) ?_)
     conv=>whnf
     exact ze [] h
   ·exact h.elim
def zwk:Spec:=fun args hp K=>match args,hp with
  | [.agg [.ptr 0 0 0 [],.ptr 1 0 0 []],.str s],[.mk t0 [.int n,.arr64 8 H1,.arr64 80 k1,.nilsl,.u64 a1],.mk t1 [.int n2,.arr64 8 H2,.arr64 80 k2,.nilsl,.u64 a2]]=>
      Pre ((n=256∨n=384)∧n2=n∧t0=248∧t1=248∧k1=KC∧k2=KC∧a1=UInt64.ofNat (bk n)∧a2=UInt64.ofNat (bk n)∧H1.length=8∧H2.length=8∧s.length≤1073741824)
      (K (.str (dgF n H2 (dgF n H1 s))) [.mk t0 [.int n,.arr64 8 H1,.arr64 80 k1,.nilsl,.u64 a1],.mk t1 [.int n2,.arr64 8 H2,.arr64 80 k2,.nilsl,.u64 a2]])
  |_,_=>False
theorem z9b:zm prog 157 zwk:=by
  refine zk zdi (zc zzq (zc zjk (zc zzy zg))) rfl func157 rfl call157 (D:=yd0) ?_ ?_
  ·intro args hp K h
   unfold zwk at h
   split at h
   ·exact Nat.le_of_ble_eq_true rfl
   ·exact h.elim
  ·intro args hp K h
   unfold zwk at h
   split at h
   ·rename_i s t0 n H1 k1 a1 t1 n2 H2 k2 a2
    obtain ⟨⟨hn,e2,e3,e4,e5,e6,e7,e8,hl1,hl2,hs⟩,h'⟩:=zl h
    clear h
    subst e2 e3 e4 e5 e6 e7 e8
    have hkc:=zm0
    have hpf1:H1.length=8∧KC.length=80∧248=248:=⟨hl1,hkc,rfl⟩
    have hpf2:H2.length=8∧KC.length=80∧248=248:=⟨hl2,hkc,rfl⟩
    have hw1:=zba (n:=n2) (k:=KC) hl1 [] s
    have hr1:=zrc n2 [] s
    by_cases hz:(wrR n2 [] s).length=0
    ·skip
     have hz0:wrR n2 [] s= []:=List.length_eq_zero_iff.1 hz
     have hps:(wrH n2 KC H1 [] s).length=8∧KC.length=80∧248=248∧(n2=256∨n2=384):=⟨hw1,hkc,rfl,hn⟩
     obtain ⟨D,hD⟩: ∃D,D=(zei n2 KC (wrH n2 KC H1 [] s) [] (UInt64.ofNat (bk n2)+UInt64.ofNat s.length)):=⟨_,rfl⟩
     have hDl:D.length=dl n2:=by rw [hD];exact zjv hn _ _ _ _
     have hDe:dgF n2 H1 s=D:=by unfold dgF;rw [hz0,←hD]
     have hdl:dl n2≤48:=by unfold dl;split<;>decide
     have hw2:=zba (n:=n2) (k:=KC) hl2 [] D
     have hr2:=zrc n2 [] D
     have hnz: ¬(wrR n2 [] D).length=0:=by
       rw [zfn,List.length_nil,Nat.zero_add,hDl]
       unfold dl bk
       rcases hn with rfl|rfl<;>decide
     rw [hDe] at h'
     refine za ?_
     rw [←hD]
     refine za ?_
     refine y0 fun t2=>?_
     have htk2:List.take (wrR n2 [] D).length (wrR n2 [] D++t2)=wrR n2 [] D:=List.take_left' rfl
     have hps2:(wrH n2 KC H2 [] D).length=8∧KC.length=80∧248=248∧(n2=256∨n2=384)∧0<(wrR n2 [] D).length∧(wrR n2 [] D).length<bk n2∧(wrR n2 [] D).length≤(wrR n2 [] D).length+t2.length∧(wrR n2 [] D).length≤(wrR n2 [] D++t2).length:=⟨hw2,hkc,rfl,hn,by omega,hr2,by omega,by rw [List.length_append];omega⟩
     refine za ?_
     rw [htk2]
     conv=>whnf
     exact ze [0,1] h'
    ·skip
     obtain ⟨D,hD⟩: ∃D,D=(zei n2 KC (wrH n2 KC H1 [] s) (wrR n2 [] s) (UInt64.ofNat (bk n2)+UInt64.ofNat s.length)):=⟨_,rfl⟩
     have hDl:D.length=dl n2:=by rw [hD];exact zjv hn _ _ _ _
     have hDe:dgF n2 H1 s=D:=by unfold dgF;rw [←hD]
     have hdl:dl n2≤48:=by unfold dl;split<;>decide
     have hw2:=zba (n:=n2) (k:=KC) hl2 [] D
     have hr2:=zrc n2 [] D
     have hnz: ¬(wrR n2 [] D).length=0:=by
       rw [zfn,List.length_nil,Nat.zero_add,hDl]
       unfold dl bk
       rcases hn with rfl|rfl<;>decide
     rw [hDe] at h'
     refine za ?_
     refine y0 fun t1=>?_
     have htk:List.take (wrR n2 [] s).length (wrR n2 [] s++t1)=wrR n2 [] s:=List.take_left' rfl
     have hps:(wrH n2 KC H1 [] s).length=8∧KC.length=80∧248=248∧(n2=256∨n2=384)∧0<(wrR n2 [] s).length∧(wrR n2 [] s).length<bk n2∧(wrR n2 [] s).length≤(wrR n2 [] s).length+t1.length∧(wrR n2 [] s).length≤(wrR n2 [] s++t1).length:=⟨hw1,hkc,rfl,hn,by omega,hr1,by omega,by rw [List.length_append];omega⟩
     refine za ?_
     rw [htk,←hD]
     refine za ?_
     refine y0 fun t2=>?_
     have htk2:List.take (wrR n2 [] D).length (wrR n2 [] D++t2)=wrR n2 [] D:=List.take_left' rfl
     have hps2:(wrH n2 KC H2 [] D).length=8∧KC.length=80∧248=248∧(n2=256∨n2=384)∧0<(wrR n2 [] D).length∧(wrR n2 [] D).length<bk n2∧(wrR n2 [] D).length≤(wrR n2 [] D).length+t2.length∧(wrR n2 [] D).length≤(wrR n2 [] D++t2).length:=⟨hw2,hkc,rfl,hn,by omega,hr2,by omega,by rw [List.length_append];omega⟩
     refine za ?_
     rw [htk2]
     conv=>whnf
     exact ze [0,1] h'
   ·exact h.elim
end Go.Sym.Z

namespace Go.Sym.Z
open Go Go.Proofs.Tryz Go.Sym.Lp Go.Sym.Cha
set_option maxRecDepth 100000
attribute [local irreducible] blk beg zod
def ydp:List (Nat×List PStep):= []
def yee:List (Nat×List PStep):= []
def ye1:List (Nat×List PStep):= [(8,[⟨0,[]⟩,⟨1,[0]⟩,⟨2,[]⟩,⟨3,[]⟩,⟨4,[0,1,2,3]⟩,⟨5,[0,1,2,3]⟩,⟨6,[0,1,2,3]⟩,⟨7,[]⟩,⟨8,[]⟩,⟨9,[]⟩])]
def zry:Spec:=fun args hp K=>match args,hp with
  | [.str key,.int c,.str nonce],[]=>K (.bool (decide (key.length=32∧(0≤c∧c≤4294967295)∧nonce.length=12))) []
  |_,_=>False
theorem z6v:zm prog 162 zry:=by
  refine zk zai zg rfl func162 rfl call162 (D:=ydp) ?_ ?_
  ·intro args hp K h
   unfold zry at h
   split at h
   ·exact Nat.le_of_ble_eq_true rfl
   ·exact h.elim
  ·intro args hp K h
   unfold zry at h
   split at h
   ·rename_i key c nonce
    by_cases h1:key.length=32
    ·by_cases h2:0≤c
     ·by_cases h3:c≤4294967295
      ·by_cases h4:nonce.length=12
       ·rw [decide_eq_true ⟨h1,⟨h2,h3⟩,h4⟩] at h
        have d4:decide ((nonce.length:Int)=12)=true:=decide_eq_true (by omega)
        refine za ?_
        rw [d4]
        conv=>whnf
        exact ze [] h
       ·rw [decide_eq_false fun hh=>h4 hh.2.2] at h
        have d4:decide ((nonce.length:Int)=12)=false:=decide_eq_false (by omega)
        refine za ?_
        rw [d4]
        conv=>whnf
        exact ze [] h
      ·rw [decide_eq_false fun hh=>h3 hh.2.1.2] at h
       refine za ?_
       exact ze [] h
     ·rw [decide_eq_false fun hh=>h2 hh.2.1.1] at h
      refine za ?_
      exact ze [] h
    ·rw [decide_eq_false fun hh=>h1 hh.1] at h
     refine za ?_
     exact ze [] h
   ·exact h.elim
def zln:Spec:=fun args hp K=>match args,hp with
  | [.str key,.int c,.str nonce],[]=>Pre (key.length=32∧(0≤c∧c≤4294967295)∧nonce.length=12) (K (.tup [.str (blk key nonce (UInt32.ofInt c)),.int 0]) [])
  |_,_=>False
theorem zxv:zm prog 140 zln:=by
  refine zk zai (zc z6v (zc zyh (zc zzh zg))) rfl func140 rfl call140 (D:=yee) ?_ ?_
  ·intro args hp K h
   unfold zln at h
   split at h
   ·exact Nat.le_of_ble_eq_true rfl
   ·exact h.elim
  ·intro args hp K h
   unfold zln at h
   split at h
   ·rename_i key c nonce
    obtain ⟨hp0,h⟩:=zl h
    have hd:=decide_eq_true hp0
    have hl:=zmk key nonce (UInt32.ofInt c)
    have hk:key.length=32∧nonce.length=12:=⟨hp0.1,hp0.2.2⟩
    have hb:=zfm key nonce (UInt32.ofInt c)
    have e:List.take 64 (List.drop (off []) (zod (beg key nonce (UInt32.ofInt c))))=blk key nonce (UInt32.ofInt c):=by
      unfold blk;exact List.take_of_length_le (Nat.le_of_eq (zgr _))
    have hb2:=zgr (beg key nonce (UInt32.ofInt c))
    repeat ((conv=>whnf);first|refine zu ?_|refine zi ?_|refine zj ?_|refine zb ?_|refine zw (by first|exact hd|(rw [hd];rfl)) ?_|refine zo (by first|exact hd|(rw [hd];rfl)) ?_|refine zn (by first|exact hd|(rw [hd];rfl)) ?_)
    conv=>whnf
    rw [e]
    conv=>whnf
    exact ze [] h
   ·exact h.elim
structure Xs (n:Nat) where
  t:Nat
  x:Nat
  k:Nat
  c:Nat
  hn:k+64*t=n∨(k=0∧n≤64*t)
  hx:0<k→x=64*t
  hc:k≤c
def zxd:Spec:=fun args hp K=>match args,hp with
  | [.str key,.int c,.str nonce,.sl 0 0 0 [] n cap],[.mk t [.arr8 m l]]=>Pre (key.length=32∧nonce.length=12∧n≤l.length∧n≤cap∧n≤9223372036854775807)
      (K (.tup []) [.mk t [.arr8 m (xl key nonce (UInt32.ofInt c) (l.take n)++l.drop n)]])
  |_,_=>False
theorem zyq:zm prog 116 zxd:=by
  refine zk zai (zc zyh (zc zzh zg)) rfl func116 rfl call116 (D:=ye1) ?_ ?_
  ·intro args hp K h
   unfold zxd at h
   split at h
   ·exact Nat.le_of_ble_eq_true rfl
   ·exact h.elim
  ·intro args hp K h
   unfold zxd at h
   split at h
   ·rename_i key c nonce n cap t m l
    obtain ⟨⟨hk,hn,hl,hcap,hmax⟩,h⟩:=zl h
    rw [←z3m hl] at h
    have hkn:key.length=32∧nonce.length=12:=⟨hk,hn⟩
    refine za ?_
    refine zp (Option (Xs n)) (fun q=>match q with
      |none=>⟨[(0,.str key),(1,.int c),(2,.str nonce),(3,.sl 0 0 0 [] n cap),(8,.u32 (UInt32.ofInt c))],[.mk t [.arr8 m l]]⟩
      |some s=>⟨[(0,.str key),(1,.int c),(2,.str nonce),(3,.sl 0 0 0 [(s.x,1)] s.k s.c),(8,.u32 (UInt32.ofInt c+UInt32.ofNat s.t))],[.mk t [.arr8 m (zlb key nonce (UInt32.ofInt c) l (n-s.k))]]⟩)
      (fun q=>match q with|none=>n+1|some s=>s.k) none [0] ?_ ?_
    ·exact zt
    ·intro q
     cases q with
     |none=>
      by_cases h4:0<n
      ·have hD:64*0=0:=rfl
       have hct:UInt32.ofInt c+UInt32.ofNat 0=UInt32.ofInt c:=UInt32.add_zero _
       have hbg:=zmk key nonce (UInt32.ofInt c)
       have hmn:(min (n:Int) 64).toNat=min n 64:=by omega
       refine za ?_
       refine zp (Ix ((min n 64))) (fun r=>⟨[(0,.str key),(1,.int c),(2,.str nonce),(3,.sl 0 0 0 [] n cap),(8,.u32 (UInt32.ofInt c)),(9,.ptr 1 0 0 []),(10,.int (min (n:Int) 64)),(27,.int (min (n:Int) 64)),(28,.int r.i)],[.mk t [.arr8 m (zlb key nonce (UInt32.ofInt c) l (0+r.i))],.mk 187 [.arr8 64 (blk key nonce (UInt32.ofInt c))]]⟩) (fun r=>((min n 64))-r.i) ⟨0,Nat.zero_le _⟩ [0,1] ?_ ?_
       ·repeat ((conv=>whnf);refine zb ?_)
        conv=>whnf
        exact zh (congrArg (fun x=>SV.agg [SV.arr8 64 x]) (by unfold blk;rfl))
       ·intro r
        have hri:=r.hi
        have hlr:(zlb key nonce (UInt32.ofInt c) l (0+r.i)).length=l.length:=yc (l:=l) (a:=0) (i:=0+r.i) (by omega) (zdc key nonce (UInt32.ofInt c) l)
        have hbl:=zfm key nonce (UInt32.ofInt c)
        have hR:((r.i:Int)).toNat=r.i:=Int.toNat_natCast _
        by_cases h5:r.i<min n 64
        ·refine za ?_
         refine ⟨⟨r.i+1,h5⟩,[0,1],by show ((min n 64))-(r.i+1)<((min n 64))-r.i;omega,?_⟩
         repeat ((conv=>whnf);refine zb ?_)
         conv=>whnf
         refine zq (congrArg (fun x=>SV.agg [SV.arr8 m x]) (z8 (by omega) ?hv ?hkk)) ?_
         case hkk=>show r.i=0+(0+r.i);omega
         case hv=>
           show List.getD (ovr l 0 (zdc key nonce (UInt32.ofInt c) l) (0+r.i)) (r.i) 0^^^List.getD (blk key nonce (UInt32.ofInt c)) r.i 0=_
           rw [yp (by omega) _ (by omega)]
           unfold zdc
           rw [show (0+r.i)/ 64=0 by omega,show (0+r.i)%64=r.i by omega,hct,Nat.zero_add]
         exact zt
        ·have e5:r.i=min n 64:=by omega
         rw [e5]
         refine za ?_
         rw [hmn]
         refine ⟨some ⟨0+1,slO cap (min n 64),n-min n 64,cap-min n 64,by omega,fun h0=>by
           have hne:cap≠min n 64:=by omega
           rw [xt hne];omega,by omega⟩,[0],by show n-min n 64<n+1;omega,?_⟩
         repeat ((conv=>whnf);refine zb ?_)
         conv=>whnf
         exact zh (congrArg (fun k=>SV.agg [SV.arr8 m (zlb key nonce (UInt32.ofInt c) l k)]) (by show 0+min n 64=n-(n-min n 64);omega))
      ·have e4:n=0:=by omega
       refine za ?_
       refine yv (hp':= [.mk t [.arr8 m (zlb key nonce (UInt32.ofInt c) l n)]]) [0] h ?_
       repeat ((conv=>whnf);refine zb ?_)
       conv=>whnf
       exact zh (congrArg (fun x=>SV.agg [SV.arr8 m x]) (by rw [e4];unfold zlb;exact (zab _ _ _).symm))
     |some s=>
      have hsn:=s.hn
      have hsx:=s.hx
      have hsc:=s.hc
      have hls:=yc (l:=l) (a:=0) (i:=n-s.k) (by omega) (zdc key nonce (UInt32.ofInt c) l)
      by_cases h4:0<s.k
      ·have hX:=hsx h4
       have hD:n-s.k=64*s.t:=by omega
       have hbg:=zmk key nonce (UInt32.ofInt c+UInt32.ofNat s.t)
       have hmn:(min (s.k:Int) 64).toNat=min s.k 64:=by omega
       refine za ?_
       refine zp (Ix ((min s.k 64))) (fun r=>⟨[(0,.str key),(1,.int c),(2,.str nonce),(3,.sl 0 0 0 [(s.x,1)] s.k s.c),(8,.u32 (UInt32.ofInt c+UInt32.ofNat s.t)),(9,.ptr 1 0 0 []),(10,.int (min (s.k:Int) 64)),(27,.int (min (s.k:Int) 64)),(28,.int r.i)],[.mk t [.arr8 m (zlb key nonce (UInt32.ofInt c) l ((n-s.k)+r.i))],.mk 187 [.arr8 64 (blk key nonce (UInt32.ofInt c+UInt32.ofNat s.t))]]⟩) (fun r=>((min s.k 64))-r.i) ⟨0,Nat.zero_le _⟩ [0,1] ?_ ?_
       ·repeat ((conv=>whnf);refine zb ?_)
        conv=>whnf
        exact zh (congrArg (fun x=>SV.agg [SV.arr8 64 x]) (by unfold blk;rfl))
       ·intro r
        have hri:=r.hi
        have hlr:(zlb key nonce (UInt32.ofInt c) l ((n-s.k)+r.i)).length=l.length:=yc (l:=l) (a:=0) (i:=(n-s.k)+r.i) (by omega) (zdc key nonce (UInt32.ofInt c) l)
        have hbl:=zfm key nonce (UInt32.ofInt c+UInt32.ofNat s.t)
        have hR:((r.i:Int)).toNat=r.i:=Int.toNat_natCast _
        by_cases h5:r.i<min s.k 64
        ·refine za ?_
         refine ⟨⟨r.i+1,h5⟩,[0,1],by show ((min s.k 64))-(r.i+1)<((min s.k 64))-r.i;omega,?_⟩
         repeat ((conv=>whnf);refine zb ?_)
         conv=>whnf
         refine zq (congrArg (fun x=>SV.agg [SV.arr8 m x]) (z8 (by omega) ?hv ?hkk)) ?_
         case hkk=>show s.x+r.i=0+((n-s.k)+r.i);omega
         case hv=>
           show List.getD (ovr l 0 (zdc key nonce (UInt32.ofInt c) l) ((n-s.k)+r.i)) (s.x+r.i) 0^^^List.getD (blk key nonce (UInt32.ofInt c+UInt32.ofNat s.t)) r.i 0=_
           rw [yp (by omega) _ (by omega)]
           unfold zdc
           rw [show ((n-s.k)+r.i)/ 64=s.t by omega,show ((n-s.k)+r.i)%64=r.i by omega,show s.x+r.i=n-s.k+r.i by omega]
         exact zt
        ·have e5:r.i=min s.k 64:=by omega
         rw [e5]
         refine za ?_
         rw [hmn]
         refine ⟨some ⟨s.t+1,s.x+slO s.c (min s.k 64),s.k-min s.k 64,s.c-min s.k 64,by omega,fun h0=>by
           have hne:s.c≠min s.k 64:=by omega
           rw [xt hne];omega,by omega⟩,[0],by show s.k-min s.k 64<s.k;omega,?_⟩
         repeat ((conv=>whnf);refine zb ?_)
         conv=>whnf
         refine zq (congrArg (fun k=>SV.agg [SV.arr8 m (zlb key nonce (UInt32.ofInt c) l k)]) (by show (n-s.k)+min s.k 64=n-(s.k-min s.k 64);omega)) ?_
         repeat ((conv=>whnf);refine zb ?_)
         conv=>whnf
         exact zh (congrArg SV.u32 (by show (UInt32.ofInt c+UInt32.ofNat s.t)+UInt32.ofNat 1=UInt32.ofInt c+UInt32.ofNat (s.t+1);exact u32_add _ _))
      ·have e4:s.k=0:=by omega
       refine za ?_
       refine yv (hp':= [.mk t [.arr8 m (zlb key nonce (UInt32.ofInt c) l n)]]) [0] h ?_
       repeat ((conv=>whnf);refine zb ?_)
       conv=>whnf
       exact zh (congrArg (fun k=>SV.agg [SV.arr8 m (zlb key nonce (UInt32.ofInt c) l k)]) (by show n-s.k=n;omega))
   ·exact h.elim
end Go.Sym.Z
