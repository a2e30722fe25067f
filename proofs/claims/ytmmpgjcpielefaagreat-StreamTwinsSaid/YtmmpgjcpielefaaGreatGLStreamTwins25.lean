/-
  Contracts of functions of the program, each said of symbolic values, and plain laws; no condition beyond each statement's own.
-/
import Derived.Test.YtmmpgjcpielefaaGreatGLStreamTwins24
import Derived.Test.YtmmpgjcpielefaaGreatGLStreamTwins21
import Derived.Test.YtmmpgjcpielefaaGreatGLStreamTwins22
import Derived.Test.YtmmpgjcpielefaaGreatGLStreamTwins17
set_option linter.unusedSimpArgs false
set_option linter.unusedVariables false
namespace Go.Sym.Z
open Go Go.Proofs.Tryz Go.Sym.Lp Go.Sym.Cha Go.Sym.Sha Go.Sym.Hk
set_option maxRecDepth 100000
attribute [local irreducible] xx KC HB zbd wrH wrR zgx zdk bk
def z9o:List (Nat×List PStep):= [(6,[⟨0,[]⟩,⟨1,[]⟩,⟨2,[0,1]⟩,⟨3,[0,1]⟩,⟨4,[2,3]⟩,⟨5,[]⟩]),(15,[⟨0,[]⟩,⟨1,[]⟩,⟨2,[0,1]⟩,⟨3,[0,1]⟩,⟨4,[2,3]⟩,⟨5,[]⟩])]
def yce:List (Nat×TyI):= [(3,ty3),(4,ty4),(5,ty5),(9,ty9),(48,zcp),(51,zco),(113,x4),(99,x3),(248,ze1),(207,zex),(209,zf8)]
theorem zcn: ∀t i,y3 yce t=some i→yp prog t i:=(zc ty3_ok (zc zbm (zc zbe (zc ty9_ok (zc zak (zc zam (zc zai (zc za7 (zc zsp (zc zre (zc zz9 x1)))))))))))
theorem ziw (key:List UInt8) (N i:Nat):(key++List.replicate (N-key.length) 0).getD i 0=key.getD i 0:=by
  rw [List.getD_eq_getElem?_getD,List.getD_eq_getElem?_getD]
  by_cases h:i<key.length
  ·rw [List.getElem?_append_left h]
  ·rw [List.getElem?_append_right (by omega),List.getElem?_eq_none (show key.length≤i by omega),List.getElem?_replicate]
   split<;>rfl
theorem zep {key:List UInt8} {N:Nat} (h:key.length≤N):zw (List.replicate N 0) (off []) (List.take (min key.length N) key)=key++List.replicate (N-key.length) 0:=by
  rw [List.take_of_length_le (show key.length≤min key.length N by omega)]
  unfold zw
  show List.take 0 _++key++List.drop (0+key.length) _=_
  rw [List.take_zero,List.nil_append,List.drop_replicate,Nat.zero_add]
def z0c:Spec:=fun args hp K=>match args,hp with
  | [.int n,.str key],[]=>Pre ((n=256∨n=384)∧key.length≤140737488351232) (K (.tup [.str (pdX (bk n) (kN n key) 54),.str (pdX (bk n) (kN n key) 92)]) [])
  |_,_=>False
set_option maxHeartbeats 4000000 in
theorem z8i:zp prog 171 z0c:=by
  refine zn zcn (zd z0u zl) rfl func171 rfl call171 (D:=z9o) ?_ ?_
  ·intro args hp K h
   unfold z0c at h
   split at h
   ·exact Nat.le_of_ble_eq_true rfl
   ·exact h.elim
  ·intro args hp K h
   unfold z0c at h
   split at h
   ·rename_i n key
    obtain ⟨⟨hn,hk⟩,h⟩:=zm h
    have hn2:=hn
    rcases hn with hn|hn
    ·have hb:bk n=64:=by unfold bk;rw [if_pos hn]
     have hp4:(4:Int)≠0∧yn (n.tdiv 4):=by rw [hn];exact ⟨by decide,by unfold yn;decide⟩
     have hd4:n.tdiv 4=64:=by rw [hn];rfl
     have hps:(n=256∨n=384)∧key.length≤140737488351232:=⟨hn2,hk⟩
     by_cases hl:64<key.length
     ·have hX:kN n key=(zgx n key):=by unfold kN;rw [hb];exact if_pos hl
      rw [hX] at h
      have hXl:(zgx n key).length≤64:=by rw [zr4 hn2];unfold dl;split<;>omega
      obtain ⟨Y,hY⟩: ∃Y,Y=(zgx n key):=⟨_,rfl⟩
      rw [←hY] at h hXl
      obtain ⟨KP,hKP⟩: ∃KP,KP=Y++List.replicate (64-Y.length) 0:=⟨_,rfl⟩
      have hKl:KP.length=64:=by rw [hKP,List.length_append,List.length_replicate];omega
      have hKg: ∀i,KP.getD i 0=Y.getD i 0:=fun i=>by rw [hKP];exact ziw Y 64 i
      have hsp:=zep hXl
      rw [←hKP] at hsp
      refine za ?_
      rw [hd4]
      rw [←hY]
      rw [show zw (List.replicate (Int.toNat 64) 0) (off []) (List.take (min Y.length (Int.toNat 64)) Y)=KP from hsp]
      refine zz (Ix (64)) (fun q=>⟨[(7,.sl 0 0 0 [] 64 64),(8,.sl 1 0 0 [] 64 64),(34,.int 64),(35,.int q.i)],[.mk 5 [.arr8 64 (ovr KP 0 (fun i=>KP.getD i 0^^^54) q.i)],.mk 5 [.arr8 64 (ovr KP 0 (fun i=>KP.getD i 0^^^92) q.i)]]⟩) (fun q=>(64)-q.i) ⟨0,Nat.zero_le _⟩ [0,1] ?_ ?_
      ·exact zu
      ·intro q
       have hi:=q.hi
       have h1:=yr (l:=KP) (a:=0) (i:=q.i) (by omega) (fun i=>KP.getD i 0^^^54)
       have h2:=yr (l:=KP) (a:=0) (i:=q.i) (by omega) (fun i=>KP.getD i 0^^^92)
       have hI:((q.i:Int)).toNat=q.i:=Int.toNat_natCast _
       by_cases h4:q.i<64
       ·refine za ?_
        refine ⟨⟨q.i+1,h4⟩,[0,1],by show (64)-(q.i+1)<(64)-q.i;omega,?_⟩
        repeat ((conv=>whnf);refine zb ?_)
        conv=>whnf
        refine yc (congrArg (fun x=>SV.agg [SV.arr8 64 x]) (ye (by omega) ?hv ?hkk)) ?_
        case hkk=>show ((q.i:Int)).toNat=0+q.i;omega
        case hv=>show (ovr KP 0 _ q.i).getD ((q.i:Int)).toNat 0^^^UInt8.ofNat 54=_;rw [hI,yz (by omega) _ (by omega)];rfl
        repeat ((conv=>whnf);refine zb ?_)
        conv=>whnf
        refine yc (congrArg (fun x=>SV.agg [SV.arr8 64 x]) (ye (by omega) ?hv ?hkk)) ?_
        case hkk=>show ((q.i:Int)).toNat=0+q.i;omega
        case hv=>show (ovr KP 0 _ q.i).getD ((q.i:Int)).toNat 0^^^UInt8.ofNat 92=_;rw [hI,yz (by omega) _ (by omega)];rfl
        exact zu
       ·have e4:q.i=64:=by omega
        have hp: ∀b,ovr KP 0 (fun i=>KP.getD i 0^^^b) 64=pdX (bk n) Y b:=fun b=>by
          rw [x2 hKl,hb];unfold pdX
          exact xy fun i _=>by rw [hKg]
        have hq: ∀b,List.take 64 (List.drop (off []) (pdX (bk n) Y b))=pdX (bk n) Y b:=fun b=>List.take_of_length_le (by show (pdX (bk n) Y b).length≤_;rw [zbz,hb];exact Nat.le_refl _)
        have hl3: ∀b,off []+64≤(pdX (bk n) Y b).length:=fun b=>by rw [zbz,hb];show 0+64≤64;exact Nat.le_of_eq (Nat.zero_add _)
        have hl54:=hl3 54
        have hl92:=hl3 92
        rw [e4,hp 54,hp 92]
        refine za ?_
        rw [hq 54,hq 92]
        conv=>whnf
        exact zh [] h
     ·have hX:kN n key=key:=by unfold kN;rw [hb];exact if_neg hl
      rw [hX] at h
      have hXl:key.length≤64:=by omega
      obtain ⟨Y,hY⟩: ∃Y,Y=key:=⟨_,rfl⟩
      rw [←hY] at h hXl
      obtain ⟨KP,hKP⟩: ∃KP,KP=Y++List.replicate (64-Y.length) 0:=⟨_,rfl⟩
      have hKl:KP.length=64:=by rw [hKP,List.length_append,List.length_replicate];omega
      have hKg: ∀i,KP.getD i 0=Y.getD i 0:=fun i=>by rw [hKP];exact ziw Y 64 i
      have hsp:=zep hXl
      rw [←hKP] at hsp
      refine za ?_
      rw [hd4]
      rw [←hY]
      rw [show zw (List.replicate (Int.toNat 64) 0) (off []) (List.take (min Y.length (Int.toNat 64)) Y)=KP from hsp]
      refine zz (Ix (64)) (fun q=>⟨[(7,.sl 0 0 0 [] 64 64),(8,.sl 1 0 0 [] 64 64),(34,.int 64),(35,.int q.i)],[.mk 5 [.arr8 64 (ovr KP 0 (fun i=>KP.getD i 0^^^54) q.i)],.mk 5 [.arr8 64 (ovr KP 0 (fun i=>KP.getD i 0^^^92) q.i)]]⟩) (fun q=>(64)-q.i) ⟨0,Nat.zero_le _⟩ [0,1] ?_ ?_
      ·exact zu
      ·intro q
       have hi:=q.hi
       have h1:=yr (l:=KP) (a:=0) (i:=q.i) (by omega) (fun i=>KP.getD i 0^^^54)
       have h2:=yr (l:=KP) (a:=0) (i:=q.i) (by omega) (fun i=>KP.getD i 0^^^92)
       have hI:((q.i:Int)).toNat=q.i:=Int.toNat_natCast _
       by_cases h4:q.i<64
       ·refine za ?_
        refine ⟨⟨q.i+1,h4⟩,[0,1],by show (64)-(q.i+1)<(64)-q.i;omega,?_⟩
        repeat ((conv=>whnf);refine zb ?_)
        conv=>whnf
        refine yc (congrArg (fun x=>SV.agg [SV.arr8 64 x]) (ye (by omega) ?hv ?hkk)) ?_
        case hkk=>show ((q.i:Int)).toNat=0+q.i;omega
        case hv=>show (ovr KP 0 _ q.i).getD ((q.i:Int)).toNat 0^^^UInt8.ofNat 54=_;rw [hI,yz (by omega) _ (by omega)];rfl
        repeat ((conv=>whnf);refine zb ?_)
        conv=>whnf
        refine yc (congrArg (fun x=>SV.agg [SV.arr8 64 x]) (ye (by omega) ?hv ?hkk)) ?_
        case hkk=>show ((q.i:Int)).toNat=0+q.i;omega
        case hv=>show (ovr KP 0 _ q.i).getD ((q.i:Int)).toNat 0^^^UInt8.ofNat 92=_;rw [hI,yz (by omega) _ (by omega)];rfl
        exact zu
       ·have e4:q.i=64:=by omega
        have hp: ∀b,ovr KP 0 (fun i=>KP.getD i 0^^^b) 64=pdX (bk n) Y b:=fun b=>by
          rw [x2 hKl,hb];unfold pdX
          exact xy fun i _=>by rw [hKg]
        have hq: ∀b,List.take 64 (List.drop (off []) (pdX (bk n) Y b))=pdX (bk n) Y b:=fun b=>List.take_of_length_le (by show (pdX (bk n) Y b).length≤_;rw [zbz,hb];exact Nat.le_refl _)
        have hl3: ∀b,off []+64≤(pdX (bk n) Y b).length:=fun b=>by rw [zbz,hb];show 0+64≤64;exact Nat.le_of_eq (Nat.zero_add _)
        have hl54:=hl3 54
        have hl92:=hl3 92
        rw [e4,hp 54,hp 92]
        refine za ?_
        rw [hq 54,hq 92]
        conv=>whnf
        exact zh [] h
    ·have hb:bk n=128:=by unfold bk;rw [if_neg (by omega)]
     have hp4:(4:Int)≠0∧yn (n.tdiv 4):=by rw [hn];exact ⟨by decide,by unfold yn;decide⟩
     have hd4:n.tdiv 4=96:=by rw [hn];rfl
     have hps:(n=256∨n=384)∧key.length≤140737488351232:=⟨hn2,hk⟩
     by_cases hl:128<key.length
     ·have hX:kN n key=(zgx n key):=by unfold kN;rw [hb];exact if_pos hl
      rw [hX] at h
      have hXl:(zgx n key).length≤128:=by rw [zr4 hn2];unfold dl;split<;>omega
      obtain ⟨Y,hY⟩: ∃Y,Y=(zgx n key):=⟨_,rfl⟩
      rw [←hY] at h hXl
      obtain ⟨KP,hKP⟩: ∃KP,KP=Y++List.replicate (128-Y.length) 0:=⟨_,rfl⟩
      have hKl:KP.length=128:=by rw [hKP,List.length_append,List.length_replicate];omega
      have hKg: ∀i,KP.getD i 0=Y.getD i 0:=fun i=>by rw [hKP];exact ziw Y 128 i
      have hsp:=zep hXl
      rw [←hKP] at hsp
      refine za ?_
      skip
      rw [←hY]
      rw [show zw (List.replicate (Int.toNat 128) 0) (off []) (List.take (min Y.length (Int.toNat 128)) Y)=KP from hsp]
      refine zz (Ix (128)) (fun q=>⟨[(7,.sl 0 0 0 [] 128 128),(8,.sl 1 0 0 [] 128 128),(34,.int 128),(35,.int q.i)],[.mk 5 [.arr8 128 (ovr KP 0 (fun i=>KP.getD i 0^^^54) q.i)],.mk 5 [.arr8 128 (ovr KP 0 (fun i=>KP.getD i 0^^^92) q.i)]]⟩) (fun q=>(128)-q.i) ⟨0,Nat.zero_le _⟩ [0,1] ?_ ?_
      ·exact zu
      ·intro q
       have hi:=q.hi
       have h1:=yr (l:=KP) (a:=0) (i:=q.i) (by omega) (fun i=>KP.getD i 0^^^54)
       have h2:=yr (l:=KP) (a:=0) (i:=q.i) (by omega) (fun i=>KP.getD i 0^^^92)
       have hI:((q.i:Int)).toNat=q.i:=Int.toNat_natCast _
       by_cases h4:q.i<128
       ·refine za ?_
        refine ⟨⟨q.i+1,h4⟩,[0,1],by show (128)-(q.i+1)<(128)-q.i;omega,?_⟩
        repeat ((conv=>whnf);refine zb ?_)
        conv=>whnf
        refine yc (congrArg (fun x=>SV.agg [SV.arr8 128 x]) (ye (by omega) ?hv ?hkk)) ?_
        case hkk=>show ((q.i:Int)).toNat=0+q.i;omega
        case hv=>show (ovr KP 0 _ q.i).getD ((q.i:Int)).toNat 0^^^UInt8.ofNat 54=_;rw [hI,yz (by omega) _ (by omega)];rfl
        repeat ((conv=>whnf);refine zb ?_)
        conv=>whnf
        refine yc (congrArg (fun x=>SV.agg [SV.arr8 128 x]) (ye (by omega) ?hv ?hkk)) ?_
        case hkk=>show ((q.i:Int)).toNat=0+q.i;omega
        case hv=>show (ovr KP 0 _ q.i).getD ((q.i:Int)).toNat 0^^^UInt8.ofNat 92=_;rw [hI,yz (by omega) _ (by omega)];rfl
        exact zu
       ·have e4:q.i=128:=by omega
        have hp: ∀b,ovr KP 0 (fun i=>KP.getD i 0^^^b) 128=pdX (bk n) Y b:=fun b=>by
          rw [x2 hKl,hb];unfold pdX
          exact xy fun i _=>by rw [hKg]
        have hq: ∀b,List.take 128 (List.drop (off []) (pdX (bk n) Y b))=pdX (bk n) Y b:=fun b=>List.take_of_length_le (by show (pdX (bk n) Y b).length≤_;rw [zbz,hb];exact Nat.le_refl _)
        have hl3: ∀b,off []+128≤(pdX (bk n) Y b).length:=fun b=>by rw [zbz,hb];show 0+128≤128;exact Nat.le_of_eq (Nat.zero_add _)
        have hl54:=hl3 54
        have hl92:=hl3 92
        rw [e4,hp 54,hp 92]
        refine za ?_
        rw [hq 54,hq 92]
        conv=>whnf
        exact zh [] h
     ·have hX:kN n key=key:=by unfold kN;rw [hb];exact if_neg hl
      rw [hX] at h
      have hXl:key.length≤128:=by omega
      obtain ⟨Y,hY⟩: ∃Y,Y=key:=⟨_,rfl⟩
      rw [←hY] at h hXl
      obtain ⟨KP,hKP⟩: ∃KP,KP=Y++List.replicate (128-Y.length) 0:=⟨_,rfl⟩
      have hKl:KP.length=128:=by rw [hKP,List.length_append,List.length_replicate];omega
      have hKg: ∀i,KP.getD i 0=Y.getD i 0:=fun i=>by rw [hKP];exact ziw Y 128 i
      have hsp:=zep hXl
      rw [←hKP] at hsp
      refine za ?_
      skip
      rw [←hY]
      rw [show zw (List.replicate (Int.toNat 128) 0) (off []) (List.take (min Y.length (Int.toNat 128)) Y)=KP from hsp]
      refine zz (Ix (128)) (fun q=>⟨[(7,.sl 0 0 0 [] 128 128),(8,.sl 1 0 0 [] 128 128),(34,.int 128),(35,.int q.i)],[.mk 5 [.arr8 128 (ovr KP 0 (fun i=>KP.getD i 0^^^54) q.i)],.mk 5 [.arr8 128 (ovr KP 0 (fun i=>KP.getD i 0^^^92) q.i)]]⟩) (fun q=>(128)-q.i) ⟨0,Nat.zero_le _⟩ [0,1] ?_ ?_
      ·exact zu
      ·intro q
       have hi:=q.hi
       have h1:=yr (l:=KP) (a:=0) (i:=q.i) (by omega) (fun i=>KP.getD i 0^^^54)
       have h2:=yr (l:=KP) (a:=0) (i:=q.i) (by omega) (fun i=>KP.getD i 0^^^92)
       have hI:((q.i:Int)).toNat=q.i:=Int.toNat_natCast _
       by_cases h4:q.i<128
       ·refine za ?_
        refine ⟨⟨q.i+1,h4⟩,[0,1],by show (128)-(q.i+1)<(128)-q.i;omega,?_⟩
        repeat ((conv=>whnf);refine zb ?_)
        conv=>whnf
        refine yc (congrArg (fun x=>SV.agg [SV.arr8 128 x]) (ye (by omega) ?hv ?hkk)) ?_
        case hkk=>show ((q.i:Int)).toNat=0+q.i;omega
        case hv=>show (ovr KP 0 _ q.i).getD ((q.i:Int)).toNat 0^^^UInt8.ofNat 54=_;rw [hI,yz (by omega) _ (by omega)];rfl
        repeat ((conv=>whnf);refine zb ?_)
        conv=>whnf
        refine yc (congrArg (fun x=>SV.agg [SV.arr8 128 x]) (ye (by omega) ?hv ?hkk)) ?_
        case hkk=>show ((q.i:Int)).toNat=0+q.i;omega
        case hv=>show (ovr KP 0 _ q.i).getD ((q.i:Int)).toNat 0^^^UInt8.ofNat 92=_;rw [hI,yz (by omega) _ (by omega)];rfl
        exact zu
       ·have e4:q.i=128:=by omega
        have hp: ∀b,ovr KP 0 (fun i=>KP.getD i 0^^^b) 128=pdX (bk n) Y b:=fun b=>by
          rw [x2 hKl,hb];unfold pdX
          exact xy fun i _=>by rw [hKg]
        have hq: ∀b,List.take 128 (List.drop (off []) (pdX (bk n) Y b))=pdX (bk n) Y b:=fun b=>List.take_of_length_le (by show (pdX (bk n) Y b).length≤_;rw [zbz,hb];exact Nat.le_refl _)
        have hl3: ∀b,off []+128≤(pdX (bk n) Y b).length:=fun b=>by rw [zbz,hb];show 0+128≤128;exact Nat.le_of_eq (Nat.zero_add _)
        have hl54:=hl3 54
        have hl92:=hl3 92
        rw [e4,hp 54,hp 92]
        refine za ?_
        rw [hq 54,hq 92]
        conv=>whnf
        exact zh [] h
   ·exact h.elim
end Go.Sym.Z

namespace Go.Sym.Z
open Go Go.Proofs.Tryz Go.Sym.Lp Go.Sym.Cha Go.Sym.Sha Go.Sym.Hk
set_option maxRecDepth 100000
attribute [local irreducible] xx KC HB zbd wrH wrR zgx zdk bk kN pdX
def z9e:List (Nat×List PStep):= []
def yak:List (Nat×List PStep):= [(1,[⟨0,[]⟩,⟨1,[]⟩,⟨3,[0,1]⟩,⟨4,[0,1]⟩,⟨2,[3,4]⟩,⟨5,[]⟩,⟨6,[]⟩,⟨7,[]⟩])]
theorem zr8 {n:Int} {x:List UInt8} (h:x.length=bk n):(wrR n [] x).length=0:=by
  rw [zip,h,List.length_nil,Nat.zero_add,Nat.mod_self]
def zqx:Spec:=fun args hp K=>match args,hp with
  | [.int n,.str key],[]=>Pre (key.length≤140737488351232)
      (zv (decide (n=256∨n=384))
        (K (.tup [.agg [.ptr 0 0 0 [],.ptr 1 0 0 []],.int 0]) [.mk 248 [.int n,.arr64 8 (mP n key 54),.arr64 80 KC,.nilsl,.u64 (UInt64.ofNat (bk n))],.mk 248 [.int n,.arr64 8 (mP n key 92),.arr64 80 KC,.nilsl,.u64 (UInt64.ofNat (bk n))]])
        (K (.tup [.agg [.nilptr,.nilptr],.int 300]) []))
  |_,_=>False
theorem z1a:zp prog 156 zqx:=by
  refine zn zcn (zd z27 (zd z8i (zd zif zl))) rfl func156 rfl call156 (D:=z9e) ?_ ?_
  ·intro args hp K h
   unfold zqx at h
   split at h
   ·exact Nat.le_of_ble_eq_true rfl
   ·exact h.elim
  ·intro args hp K h
   unfold zqx at h
   split at h
   ·rename_i n key
    obtain ⟨hk,h⟩:=zm h
    obtain ⟨ht,hf⟩:=zt h
    by_cases hn:n=256∨n=384
    ·have h:=ht (decide_eq_true hn)
     have hd:=decide_eq_true hn
     have hkc:=zo6
     have hl:=zpk n
     have hp:=And.intro hn hk
     have hbk:bk n≤128:=by unfold bk;split<;>omega
     have hx1:=zbz (bk n) (kN n key) 54
     have hx2:=zbz (bk n) (kN n key) 92
     have hz1:=zr8 hx1
     have hz2:=zr8 hx2
     have ha:(0:UInt64)+UInt64.ofNat (bk n)=UInt64.ofNat (bk n):=UInt64.zero_add _
     repeat ((conv=>whnf);first|refine zo ?_|refine zf ?_|refine zg ?_|refine zb ?_|refine zr (by first|exact hd) ?_|refine zi (by first|exact hd) ?_|refine zj (by first|exact hd) ?_)
     conv=>whnf
     rw [hx1,hx2,ha]
     conv=>whnf
     exact zh [1,2] h
    ·have h:=hf (decide_eq_false hn)
     have hd:=decide_eq_false hn
     repeat ((conv=>whnf);first|refine zo ?_|refine zf ?_|refine zg ?_|refine zb ?_|refine zr (by first|exact hd) ?_|refine zi (by first|exact hd) ?_|refine zj (by first|exact hd) ?_)
     conv=>whnf
     exact zh [] h
   ·exact h.elim
def ztx:Spec:=fun args hp K=>match args,hp with
  | [.agg [.ptr 0 0 0 [],.ptr 1 0 0 []],.str s],[.mk t0 [.int n,.arr64 8 H1,.arr64 80 k1,.nilsl,.u64 a1],.mk t1 [.int n2,.arr64 8 H2,.arr64 80 k2,.nilsl,.u64 a2]]=>
      Pre ((n=256∨n=384)∧n2=n∧t0=248∧t1=248∧k1=KC∧k2=KC∧a1=UInt64.ofNat (bk n)∧a2=UInt64.ofNat (bk n)∧H1.length=8∧H2.length=8∧s.length≤1073741824)
      (K (.str (dgF n H2 (dgF n H1 s))) [.mk t0 [.int n,.arr64 8 H1,.arr64 80 k1,.nilsl,.u64 a1],.mk t1 [.int n2,.arr64 8 H2,.arr64 80 k2,.nilsl,.u64 a2]])
  |_,_=>False
theorem z51:zp prog 157 ztx:=by
  refine zn zcn (zd zvj (zd zif (zd zws zl))) rfl func157 rfl call157 (D:=yak) ?_ ?_
  ·intro args hp K h
   unfold ztx at h
   split at h
   ·exact Nat.le_of_ble_eq_true rfl
   ·exact h.elim
  ·intro args hp K h
   unfold ztx at h
   split at h
   ·rename_i s t0 n H1 k1 a1 t1 n2 H2 k2 a2
    obtain ⟨⟨hn,e2,e3,e4,e5,e6,e7,e8,hl1,hl2,hs⟩,h'⟩:=zm h
    clear h
    subst e2 e3 e4 e5 e6 e7 e8
    have hkc:=zo6
    have hpf1:H1.length=8∧KC.length=80∧248=248:=⟨hl1,hkc,rfl⟩
    have hpf2:H2.length=8∧KC.length=80∧248=248:=⟨hl2,hkc,rfl⟩
    have hw1:=zau (n:=n2) (k:=KC) hl1 [] s
    have hr1:=zpu n2 [] s
    by_cases hz:(wrR n2 [] s).length=0
    ·skip
     have hz0:wrR n2 [] s= []:=List.length_eq_zero_iff.1 hz
     have hps:(wrH n2 KC H1 [] s).length=8∧KC.length=80∧248=248∧(n2=256∨n2=384):=⟨hw1,hkc,rfl,hn⟩
     obtain ⟨D,hD⟩: ∃D,D=(zdk n2 KC (wrH n2 KC H1 [] s) [] (UInt64.ofNat (bk n2)+UInt64.ofNat s.length)):=⟨_,rfl⟩
     have hDl:D.length=dl n2:=by rw [hD];exact zih hn _ _ _ _
     have hDe:dgF n2 H1 s=D:=by unfold dgF;rw [hz0,←hD]
     have hdl:dl n2≤48:=by unfold dl;split<;>decide
     have hw2:=zau (n:=n2) (k:=KC) hl2 [] D
     have hr2:=zpu n2 [] D
     have hnz: ¬(wrR n2 [] D).length=0:=by
       rw [zip,List.length_nil,Nat.zero_add,hDl]
       unfold dl bk
       rcases hn with rfl|rfl<;>decide
     rw [hDe] at h'
     refine za ?_
     rw [←hD]
     refine za ?_
     refine yh fun t2=>?_
     have htk2:List.take (wrR n2 [] D).length (wrR n2 [] D++t2)=wrR n2 [] D:=List.take_left' rfl
     have hps2:(wrH n2 KC H2 [] D).length=8∧KC.length=80∧248=248∧(n2=256∨n2=384)∧0<(wrR n2 [] D).length∧(wrR n2 [] D).length<bk n2∧(wrR n2 [] D).length≤(wrR n2 [] D).length+t2.length∧(wrR n2 [] D).length≤(wrR n2 [] D++t2).length:=⟨hw2,hkc,rfl,hn,by omega,hr2,by omega,by rw [List.length_append];omega⟩
     refine za ?_
     rw [htk2]
     conv=>whnf
     exact zh [0,1] h'
    ·skip
     obtain ⟨D,hD⟩: ∃D,D=(zdk n2 KC (wrH n2 KC H1 [] s) (wrR n2 [] s) (UInt64.ofNat (bk n2)+UInt64.ofNat s.length)):=⟨_,rfl⟩
     have hDl:D.length=dl n2:=by rw [hD];exact zih hn _ _ _ _
     have hDe:dgF n2 H1 s=D:=by unfold dgF;rw [←hD]
     have hdl:dl n2≤48:=by unfold dl;split<;>decide
     have hw2:=zau (n:=n2) (k:=KC) hl2 [] D
     have hr2:=zpu n2 [] D
     have hnz: ¬(wrR n2 [] D).length=0:=by
       rw [zip,List.length_nil,Nat.zero_add,hDl]
       unfold dl bk
       rcases hn with rfl|rfl<;>decide
     rw [hDe] at h'
     refine za ?_
     refine yh fun t1=>?_
     have htk:List.take (wrR n2 [] s).length (wrR n2 [] s++t1)=wrR n2 [] s:=List.take_left' rfl
     have hps:(wrH n2 KC H1 [] s).length=8∧KC.length=80∧248=248∧(n2=256∨n2=384)∧0<(wrR n2 [] s).length∧(wrR n2 [] s).length<bk n2∧(wrR n2 [] s).length≤(wrR n2 [] s).length+t1.length∧(wrR n2 [] s).length≤(wrR n2 [] s++t1).length:=⟨hw1,hkc,rfl,hn,by omega,hr1,by omega,by rw [List.length_append];omega⟩
     refine za ?_
     rw [htk,←hD]
     refine za ?_
     refine yh fun t2=>?_
     have htk2:List.take (wrR n2 [] D).length (wrR n2 [] D++t2)=wrR n2 [] D:=List.take_left' rfl
     have hps2:(wrH n2 KC H2 [] D).length=8∧KC.length=80∧248=248∧(n2=256∨n2=384)∧0<(wrR n2 [] D).length∧(wrR n2 [] D).length<bk n2∧(wrR n2 [] D).length≤(wrR n2 [] D).length+t2.length∧(wrR n2 [] D).length≤(wrR n2 [] D++t2).length:=⟨hw2,hkc,rfl,hn,by omega,hr2,by omega,by rw [List.length_append];omega⟩
     refine za ?_
     rw [htk2]
     conv=>whnf
     exact zh [0,1] h'
   ·exact h.elim
end Go.Sym.Z

namespace Go.Sym.Z
open Go Go.Proofs.Tryz Go.Sym.Lp Go.Sym.Cha
set_option maxRecDepth 100000
attribute [local irreducible] blk beg zx9
def z9x:List (Nat×List PStep):= []
def yaz:List (Nat×List PStep):= []
def z9q:List (Nat×List PStep):= [(8,[⟨0,[]⟩,⟨1,[0]⟩,⟨2,[]⟩,⟨3,[]⟩,⟨4,[0,1,2,3]⟩,⟨5,[0,1,2,3]⟩,⟨6,[0,1,2,3]⟩,⟨7,[]⟩,⟨8,[]⟩,⟨9,[]⟩])]
def zpm:Spec:=fun args hp K=>match args,hp with
  | [.str key,.int c,.str nonce],[]=>K (.bool (decide (key.length=32∧(0≤c∧c≤4294967295)∧nonce.length=12))) []
  |_,_=>False
theorem z0f:zp prog 162 zpm:=by
  refine zn zb1 zl rfl func162 rfl call162 (D:=z9x) ?_ ?_
  ·intro args hp K h
   unfold zpm at h
   split at h
   ·exact Nat.le_of_ble_eq_true rfl
   ·exact h.elim
  ·intro args hp K h
   unfold zpm at h
   split at h
   ·rename_i key c nonce
    by_cases h1:key.length=32
    ·by_cases h2:0≤c
     ·by_cases h3:c≤4294967295
      ·by_cases h4:nonce.length=12
       ·rw [decide_eq_true ⟨h1,⟨h2,h3⟩,h4⟩] at h
        have d4:decide ((nonce.length:Int)=12)=true:=decide_eq_true (by omega)
        refine za ?_
        rw [d4]
        conv=>whnf
        exact zh [] h
       ·rw [decide_eq_false fun hh=>h4 hh.2.2] at h
        have d4:decide ((nonce.length:Int)=12)=false:=decide_eq_false (by omega)
        refine za ?_
        rw [d4]
        conv=>whnf
        exact zh [] h
      ·rw [decide_eq_false fun hh=>h3 hh.2.1.2] at h
       refine za ?_
       exact zh [] h
     ·rw [decide_eq_false fun hh=>h2 hh.2.1.1] at h
      refine za ?_
      exact zh [] h
    ·rw [decide_eq_false fun hh=>h1 hh.1] at h
     refine za ?_
     exact zh [] h
   ·exact h.elim
def zjj:Spec:=fun args hp K=>match args,hp with
  | [.str key,.int c,.str nonce],[]=>Pre (key.length=32∧(0≤c∧c≤4294967295)∧nonce.length=12) (K (.tup [.str (blk key nonce (UInt32.ofInt c)),.int 0]) [])
  |_,_=>False
theorem zto:zp prog 140 zjj:=by
  refine zn zb1 (zd z0f (zd zvt (zd zwq zl))) rfl func140 rfl call140 (D:=yaz) ?_ ?_
  ·intro args hp K h
   unfold zjj at h
   split at h
   ·exact Nat.le_of_ble_eq_true rfl
   ·exact h.elim
  ·intro args hp K h
   unfold zjj at h
   split at h
   ·rename_i key c nonce
    obtain ⟨hp0,h⟩:=zm h
    have hd:=decide_eq_true hp0
    have hl:=zqi key nonce (UInt32.ofInt c)
    have hk:key.length=32∧nonce.length=12:=⟨hp0.1,hp0.2.2⟩
    have hb:=zkj key nonce (UInt32.ofInt c)
    have e:List.take 64 (List.drop (off []) (zx9 (beg key nonce (UInt32.ofInt c))))=blk key nonce (UInt32.ofInt c):=by
      unfold blk;exact List.take_of_length_le (Nat.le_of_eq (zlp _))
    have hb2:=zlp (beg key nonce (UInt32.ofInt c))
    repeat ((conv=>whnf);first|refine zo ?_|refine zf ?_|refine zg ?_|refine zb ?_|refine zr (by first|exact hd|(rw [hd];rfl)) ?_|refine zi (by first|exact hd|(rw [hd];rfl)) ?_|refine zj (by first|exact hd|(rw [hd];rfl)) ?_)
    conv=>whnf
    rw [e]
    conv=>whnf
    exact zh [] h
   ·exact h.elim
structure Xs (n:Nat) where
  t:Nat
  x:Nat
  k:Nat
  c:Nat
  hn:k+64*t=n∨(k=0∧n≤64*t)
  hx:0<k→x=64*t
  hc:k≤c
def ztl:Spec:=fun args hp K=>match args,hp with
  | [.str key,.int c,.str nonce,.sl 0 0 0 [] n cap],[.mk t [.arr8 m l]]=>Pre (key.length=32∧nonce.length=12∧n≤l.length∧n≤cap∧n≤9223372036854775807)
      (K (.tup []) [.mk t [.arr8 m (xl key nonce (UInt32.ofInt c) (l.take n)++l.drop n)]])
  |_,_=>False
theorem zwa:zp prog 116 ztl:=by
  refine zn zb1 (zd zvt (zd zwq zl)) rfl func116 rfl call116 (D:=z9q) ?_ ?_
  ·intro args hp K h
   unfold ztl at h
   split at h
   ·exact Nat.le_of_ble_eq_true rfl
   ·exact h.elim
  ·intro args hp K h
   unfold ztl at h
   split at h
   ·rename_i key c nonce n cap t m l
    obtain ⟨⟨hk,hn,hl,hcap,hmax⟩,h⟩:=zm h
    rw [←z2v hl] at h
    have hkn:key.length=32∧nonce.length=12:=⟨hk,hn⟩
    refine za ?_
    refine zz (Option (Xs n)) (fun q=>match q with
      |none=>⟨[(0,.str key),(1,.int c),(2,.str nonce),(3,.sl 0 0 0 [] n cap),(8,.u32 (UInt32.ofInt c))],[.mk t [.arr8 m l]]⟩
      |some s=>⟨[(0,.str key),(1,.int c),(2,.str nonce),(3,.sl 0 0 0 [(s.x,1)] s.k s.c),(8,.u32 (UInt32.ofInt c+UInt32.ofNat s.t))],[.mk t [.arr8 m (zjv key nonce (UInt32.ofInt c) l (n-s.k))]]⟩)
      (fun q=>match q with|none=>n+1|some s=>s.k) none [0] ?_ ?_
    ·exact zu
    ·intro q
     cases q with
     |none=>
      by_cases h4:0<n
      ·have hD:64*0=0:=rfl
       have hct:UInt32.ofInt c+UInt32.ofNat 0=UInt32.ofInt c:=UInt32.add_zero _
       have hbg:=zqi key nonce (UInt32.ofInt c)
       have hmn:(min (n:Int) 64).toNat=min n 64:=by omega
       refine za ?_
       refine zz (Ix ((min n 64))) (fun r=>⟨[(0,.str key),(1,.int c),(2,.str nonce),(3,.sl 0 0 0 [] n cap),(8,.u32 (UInt32.ofInt c)),(9,.ptr 1 0 0 []),(10,.int (min (n:Int) 64)),(27,.int (min (n:Int) 64)),(28,.int r.i)],[.mk t [.arr8 m (zjv key nonce (UInt32.ofInt c) l (0+r.i))],.mk 187 [.arr8 64 (blk key nonce (UInt32.ofInt c))]]⟩) (fun r=>((min n 64))-r.i) ⟨0,Nat.zero_le _⟩ [0,1] ?_ ?_
       ·repeat ((conv=>whnf);refine zb ?_)
        conv=>whnf
        exact zx (congrArg (fun x=>SV.agg [SV.arr8 64 x]) (by unfold blk;rfl))
       ·intro r
        have hri:=r.hi
        have hlr:(zjv key nonce (UInt32.ofInt c) l (0+r.i)).length=l.length:=yr (l:=l) (a:=0) (i:=0+r.i) (by omega) (znc key nonce (UInt32.ofInt c) l)
        have hbl:=zkj key nonce (UInt32.ofInt c)
        have hR:((r.i:Int)).toNat=r.i:=Int.toNat_natCast _
        by_cases h5:r.i<min n 64
        ·refine za ?_
         refine ⟨⟨r.i+1,h5⟩,[0,1],by show ((min n 64))-(r.i+1)<((min n 64))-r.i;omega,?_⟩
         repeat ((conv=>whnf);refine zb ?_)
         conv=>whnf
         refine yc (congrArg (fun x=>SV.agg [SV.arr8 m x]) (ye (by omega) ?hv ?hkk)) ?_
         case hkk=>show r.i=0+(0+r.i);omega
         case hv=>
           show List.getD (ovr l 0 (znc key nonce (UInt32.ofInt c) l) (0+r.i)) (r.i) 0^^^List.getD (blk key nonce (UInt32.ofInt c)) r.i 0=_
           rw [yz (by omega) _ (by omega)]
           unfold znc
           rw [show (0+r.i)/ 64=0 by omega,show (0+r.i)%64=r.i by omega,hct,Nat.zero_add]
         exact zu
        ·have e5:r.i=min n 64:=by omega
         rw [e5]
         refine za ?_
         rw [hmn]
         refine ⟨some ⟨0+1,slO cap (min n 64),n-min n 64,cap-min n 64,by omega,fun h0=>by
           have hne:cap≠min n 64:=by omega
           rw [yy hne];omega,by omega⟩,[0],by show n-min n 64<n+1;omega,?_⟩
         repeat ((conv=>whnf);refine zb ?_)
         conv=>whnf
         exact zx (congrArg (fun k=>SV.agg [SV.arr8 m (zjv key nonce (UInt32.ofInt c) l k)]) (by show 0+min n 64=n-(n-min n 64);omega))
      ·have e4:n=0:=by omega
       refine za ?_
       refine yv (hp':= [.mk t [.arr8 m (zjv key nonce (UInt32.ofInt c) l n)]]) [0] h ?_
       repeat ((conv=>whnf);refine zb ?_)
       conv=>whnf
       exact zx (congrArg (fun x=>SV.agg [SV.arr8 m x]) (by rw [e4];unfold zjv;exact (zcc _ _ _).symm))
     |some s=>
      have hsn:=s.hn
      have hsx:=s.hx
      have hsc:=s.hc
      have hls:=yr (l:=l) (a:=0) (i:=n-s.k) (by omega) (znc key nonce (UInt32.ofInt c) l)
      by_cases h4:0<s.k
      ·have hX:=hsx h4
       have hD:n-s.k=64*s.t:=by omega
       have hbg:=zqi key nonce (UInt32.ofInt c+UInt32.ofNat s.t)
       have hmn:(min (s.k:Int) 64).toNat=min s.k 64:=by omega
       refine za ?_
       refine zz (Ix ((min s.k 64))) (fun r=>⟨[(0,.str key),(1,.int c),(2,.str nonce),(3,.sl 0 0 0 [(s.x,1)] s.k s.c),(8,.u32 (UInt32.ofInt c+UInt32.ofNat s.t)),(9,.ptr 1 0 0 []),(10,.int (min (s.k:Int) 64)),(27,.int (min (s.k:Int) 64)),(28,.int r.i)],[.mk t [.arr8 m (zjv key nonce (UInt32.ofInt c) l ((n-s.k)+r.i))],.mk 187 [.arr8 64 (blk key nonce (UInt32.ofInt c+UInt32.ofNat s.t))]]⟩) (fun r=>((min s.k 64))-r.i) ⟨0,Nat.zero_le _⟩ [0,1] ?_ ?_
       ·repeat ((conv=>whnf);refine zb ?_)
        conv=>whnf
        exact zx (congrArg (fun x=>SV.agg [SV.arr8 64 x]) (by unfold blk;rfl))
       ·intro r
        have hri:=r.hi
        have hlr:(zjv key nonce (UInt32.ofInt c) l ((n-s.k)+r.i)).length=l.length:=yr (l:=l) (a:=0) (i:=(n-s.k)+r.i) (by omega) (znc key nonce (UInt32.ofInt c) l)
        have hbl:=zkj key nonce (UInt32.ofInt c+UInt32.ofNat s.t)
        have hR:((r.i:Int)).toNat=r.i:=Int.toNat_natCast _
        by_cases h5:r.i<min s.k 64
        ·refine za ?_
         refine ⟨⟨r.i+1,h5⟩,[0,1],by show ((min s.k 64))-(r.i+1)<((min s.k 64))-r.i;omega,?_⟩
         repeat ((conv=>whnf);refine zb ?_)
         conv=>whnf
         refine yc (congrArg (fun x=>SV.agg [SV.arr8 m x]) (ye (by omega) ?hv ?hkk)) ?_
         case hkk=>show s.x+r.i=0+((n-s.k)+r.i);omega
         case hv=>
           show List.getD (ovr l 0 (znc key nonce (UInt32.ofInt c) l) ((n-s.k)+r.i)) (s.x+r.i) 0^^^List.getD (blk key nonce (UInt32.ofInt c+UInt32.ofNat s.t)) r.i 0=_
           rw [yz (by omega) _ (by omega)]
           unfold znc
           rw [show ((n-s.k)+r.i)/ 64=s.t by omega,show ((n-s.k)+r.i)%64=r.i by omega,show s.x+r.i=n-s.k+r.i by omega]
         exact zu
        ·have e5:r.i=min s.k 64:=by omega
         rw [e5]
         refine za ?_
         rw [hmn]
         refine ⟨some ⟨s.t+1,s.x+slO s.c (min s.k 64),s.k-min s.k 64,s.c-min s.k 64,by omega,fun h0=>by
           have hne:s.c≠min s.k 64:=by omega
           rw [yy hne];omega,by omega⟩,[0],by show s.k-min s.k 64<s.k;omega,?_⟩
         repeat ((conv=>whnf);refine zb ?_)
         conv=>whnf
         refine yc (congrArg (fun k=>SV.agg [SV.arr8 m (zjv key nonce (UInt32.ofInt c) l k)]) (by show (n-s.k)+min s.k 64=n-(s.k-min s.k 64);omega)) ?_
         repeat ((conv=>whnf);refine zb ?_)
         conv=>whnf
         exact zx (congrArg SV.u32 (by show (UInt32.ofInt c+UInt32.ofNat s.t)+UInt32.ofNat 1=UInt32.ofInt c+UInt32.ofNat (s.t+1);exact u32_add _ _))
      ·have e4:s.k=0:=by omega
       refine za ?_
       refine yv (hp':= [.mk t [.arr8 m (zjv key nonce (UInt32.ofInt c) l n)]]) [0] h ?_
       repeat ((conv=>whnf);refine zb ?_)
       conv=>whnf
       exact zx (congrArg (fun k=>SV.agg [SV.arr8 m (zjv key nonce (UInt32.ofInt c) l k)]) (by show n-s.k=n;omega))
   ·exact h.elim
end Go.Sym.Z

namespace Go.Sym.Pol
open Go.Sym.Lp
theorem z9m {x:List UInt64} (h:x.length=5): ∃a b c d e,x= [a,b,c,d,e]:=by
  match x,h with
  | [a,b,c,d,e],_=>exact ⟨a,b,c,d,e,rfl⟩
def M26:UInt64:=67108863
def g64 (x:List UInt64) (i:Nat):UInt64:=x.getD i 0
def zat (x:List UInt64):Nat→List UInt64
  |0=>x
  |i+1=>
   let y:=zat x i
   let c:=g64 y (i%5)>>>(26:UInt64)
   let z:=y.set (i%5) (g64 y (i%5)&&&M26)
   if i%5=4 then z.set 0 (g64 z 0+5*c) else z.set (i%5+1) (g64 z (i%5+1)+c)
theorem zjo (x:List UInt64): ∀i,(zat x i).length=x.length
  |0=>rfl
  |i+1=>by
   simp only [zat]
   split<;>simp [zjo x i]
def car (x:List UInt64):List UInt64:=zat x 6
def z02 (x r:List UInt64) (i k:Nat):UInt64:=if 5≤i+k then g64 x i*g64 r k*5 else g64 x i*g64 r k
def zdo (x r:List UInt64):Nat→List UInt64
  |0=> [0,0,0,0,0]
  |n+1=>(zdo x r n).set ((n/ 5+n%5)%5) (g64 (zdo x r n) ((n/ 5+n%5)%5)+z02 x r (n/ 5) (n%5))
theorem zh6 (x r:List UInt64): ∀n,(zdo x r n).length=5
  |0=>rfl
  |n+1=>by simp only [zdo,List.length_set];exact zh6 x r n
theorem z7v (x r:List UInt64) (n:Nat):zdo x r (n+1)=(zdo x r n).set ((n/ 5+n%5)%5) (g64 (zdo x r n) ((n/ 5+n%5)%5)+z02 x r (n/ 5) (n%5)):=rfl
def zse (x r:List UInt64):List UInt64:=car (zdo x r 25)
end Go.Sym.Pol
namespace Go.Sym.Pol
open Go.Sym.Lp
def zz7 (x y:List UInt64):List UInt64:=(List.range 5).map fun i=>g64 x i+g64 y i
theorem z2w (x y:List UInt64):(zz7 x y).length=5:=z7 _ _
theorem zcq (x:List UInt64):(car x).length=x.length:=zjo x 6
theorem zwy (x r:List UInt64):(zse x r).length=5:=by unfold zse;rw [zcq,zh6]
theorem zte (x:List UInt64) (i:Nat) (h: ¬i%5=4):zat x (i+1)=((zat x i).set (i%5) (g64 (zat x i) (i%5)&&&M26)).set (i%5+1) (g64 ((zat x i).set (i%5) (g64 (zat x i) (i%5)&&&M26)) (i%5+1)+g64 (zat x i) (i%5)>>>(26:UInt64)):=by
  simp only [zat];rw [if_neg h]
theorem zs3 (x:List UInt64) (i:Nat) (h:i%5=4):zat x (i+1)=((zat x i).set (i%5) (g64 (zat x i) (i%5)&&&M26)).set 0 (g64 ((zat x i).set (i%5) (g64 (zat x i) (i%5)&&&M26)) 0+5*g64 (zat x i) (i%5)>>>(26:UInt64)):=by
  simp only [zat];rw [if_pos h]
def zhs (b:List UInt8):Nat→List UInt64
  |0=> [0,0,0]
  |i+1=>(zhs b i).set (i/ 8) (g64 (zhs b i) (i/ 8)|||(b.getD i 0).toUInt64<<<UInt64.ofNat (8*(i%8)))
theorem zrs (b:List UInt8): ∀i,(zhs b i).length=3
  |0=>rfl
  |i+1=>by simp only [zhs,List.length_set];exact zrs b i
def ldW (b:List UInt8):List UInt64:=(zhs b b.length).set (b.length/ 8) (g64 (zhs b b.length) (b.length/ 8)|||(1:UInt64)<<<UInt64.ofNat (8*(b.length%8)))
def yb7 (w:List UInt64):List UInt64:=
  [g64 w 0&&&M26,g64 w 0>>>(26:UInt64)&&&M26,(g64 w 0>>>(52:UInt64)|||g64 w 1<<<(12:UInt64))&&&M26,g64 w 1>>>(14:UInt64)&&&M26,g64 w 1>>>(40:UInt64)|||g64 w 2<<<(24:UInt64)]
def ze8 (b:List UInt8):List UInt64:=yb7 (ldW b)
theorem zjq (b:List UInt8):(ze8 b).length=5:=rfl
def zuc (r x:List UInt64) (b:List UInt8):List UInt64:=zse (zz7 x (ze8 b)) r
theorem z16 (r x:List UInt64) (b:List UInt8):(zuc r x b).length=5:=zwy _ _
end Go.Sym.Pol
namespace Go.Sym.Pol
theorem z4z (x r:List UInt64) {i k:Nat} (hk:k<5):zdo x r (5*i+k+1)=(zdo x r (5*i+k)).set ((i+k)%5) (g64 (zdo x r (5*i+k)) ((i+k)%5)+z02 x r i k):=by
  rw [z7v,show (5*i+k)/ 5=i by omega,show (5*i+k)%5=k by omega]
end Go.Sym.Pol
namespace Go.Sym.Pol
open Go.Sym.Lp
def zj6 (r x:List UInt64) (B:List UInt8):Nat→List UInt64
  |0=>x
  |t+1=>zuc r (zj6 r x B t) ((B.drop (16*t)).take 16)
def zdt (r x:List UInt64) (B:List UInt8):List UInt64:=zj6 r x B ((B.length+15)/ 16)
theorem zjy {r x:List UInt64} (hx:x.length=5) (B:List UInt8): ∀t,(zj6 r x B t).length=5
  |0=>hx
  |_+1=>z16 _ _ _
theorem zlv {r x:List UInt64} (hx:x.length=5) (B:List UInt8):(zdt r x B).length=5:=zjy hx B _
theorem z6d {l:List UInt8} {n a:Nat}:((l.take n).drop a).take 16=(l.drop a).take (min 16 (n-a)):=by
  rw [List.drop_take,List.take_take]
def zbl (x:List UInt64):Nat→List UInt64
  |0=>x.set 0 (g64 x 0+5)
  |i+1=>((zbl x i).set (i+1) (g64 (zbl x i) (i+1)+g64 (zbl x i) i>>>(26:UInt64))).set i (g64 ((zbl x i).set (i+1) (g64 (zbl x i) (i+1)+g64 (zbl x i) i>>>(26:UInt64))) i&&&M26)
theorem zjw (x:List UInt64): ∀i,(zbl x i).length=x.length
  |0=>by simp [zbl]
  |i+1=>by simp only [zbl,List.length_set];exact zjw x i
def zbc (x:List UInt64):List UInt64:=
  if 0<(g64 (zbl (car (car x)) 4) 4>>>(26:UInt64)).toNat then (zbl (car (car x)) 4).set 4 (g64 (zbl (car (car x)) 4) 4&&&M26) else car (car x)
theorem zxu {x:List UInt64} (h:x.length=5):(zbc x).length=5:=by
  unfold zbc;split
  ·rw [List.length_set,zjw,zcq,zcq,h]
  ·rw [zcq,zcq,h]
def zxh (x:List UInt64):UInt64:=g64 x 0|||g64 x 1<<<(26:UInt64)|||g64 x 2<<<(52:UInt64)
def zn3 (x:List UInt64):UInt64:=g64 x 2>>>(12:UInt64)|||g64 x 3<<<(14:UInt64)|||g64 x 4<<<(40:UInt64)
def zbq (lo hi:UInt64) (key:List UInt8):Nat→List UInt8×UInt64
  |0=>(List.replicate 16 0,0)
  |i+1=>
   let c:=(zbq lo hi key i).2+(((if 8≤i then hi else lo)>>>UInt64.ofNat (8*(i%8))&&&255)+(key.getD (16+i) 0).toUInt64)
   ((zbq lo hi key i).1.set i c.toUInt8,c>>>(8:UInt64))
theorem zmq (lo hi:UInt64) (key:List UInt8): ∀i,(zbq lo hi key i).1.length=16
  |0=>rfl
  |i+1=>by simp only [zbq,List.length_set];exact zmq lo hi key i
def zh7 (x:List UInt64) (key:List UInt8):List UInt8:=(zbq (zxh (zbc x)) (zn3 (zbc x)) key 16).1
theorem zxw (x:List UInt64) (key:List UInt8):(zh7 x key).length=16:=zmq _ _ _ 16
end Go.Sym.Pol
namespace Go.Sym.Pol
section
variable (lo hi:UInt64) (key:List UInt8) {i:Nat}
theorem zvn:zbq lo hi key 0=(List.replicate 16 0,0):=rfl
theorem z6b (h:8≤i):zbq lo hi key (i+1)=((zbq lo hi key i).1.set i ((zbq lo hi key i).2+((hi>>>UInt64.ofNat (8*(i%8))&&&255)+(key.getD (16+i) 0).toUInt64)).toUInt8,((zbq lo hi key i).2+((hi>>>UInt64.ofNat (8*(i%8))&&&255)+(key.getD (16+i) 0).toUInt64))>>>(8:UInt64)):=by
  simp only [zbq];rw [if_pos h]
theorem z6g (h: ¬8≤i):zbq lo hi key (i+1)=((zbq lo hi key i).1.set i ((zbq lo hi key i).2+((lo>>>UInt64.ofNat (8*(i%8))&&&255)+(key.getD (16+i) 0).toUInt64)).toUInt8,((zbq lo hi key i).2+((lo>>>UInt64.ofNat (8*(i%8))&&&255)+(key.getD (16+i) 0).toUInt64))>>>(8:UInt64)):=by
  simp only [zbq];rw [if_neg h]
end
end Go.Sym.Pol
namespace Go.Sym.Pol
open Go.Sym.Lp
def cA (b:List UInt8):Nat→List UInt8
  |0=>b
  |j+1=>(cA b j).set (3+4*j) ((cA b j).getD (3+4*j) 0&&&UInt8.ofNat 15)
def cC (b:List UInt8):Nat→List UInt8
  |0=>b
  |j+1=>(cC b j).set (4+4*j) ((cC b j).getD (4+4*j) 0&&&UInt8.ofNat 252)
theorem zyy (b:List UInt8): ∀j,(cA b j).length=b.length
  |0=>rfl
  |j+1=>by simp only [cA,List.length_set];exact zyy b j
theorem z21 (b:List UInt8): ∀j,(cC b j).length=b.length
  |0=>rfl
  |j+1=>by simp only [cC,List.length_set];exact z21 b j
theorem zn7 {b tl:List UInt8} {k:Nat} (h:k<b.length) (m:UInt8):(b++tl).set k ((b++tl).getD k 0&&&m)=b.set k (b.getD k 0&&&m)++tl:=by
  rw [List.set_append_left _ _ h,List.getD_eq_getElem?_getD,List.getElem?_append_left h,←List.getD_eq_getElem?_getD]
def rOf (key:List UInt8):List UInt64:=(ze8 (cC (cA (key.take 16) 4) 3)).set 4 (g64 (ze8 (cC (cA (key.take 16) 4) 3)) 4&&&UInt64.ofNat 16777215)
theorem z5m (key:List UInt8):(rOf key).length=5:=by unfold rOf;rw [List.length_set];exact zjq _
def zc6 (n:Nat):List UInt8:=List.replicate ((16-n%16)%16) 0
def zhv (n:Nat):List UInt8:= [UInt8.ofInt (n:Int),UInt8.ofInt ((n:Int)/ 2^8),UInt8.ofInt ((n:Int)/ 2^16),UInt8.ofInt ((n:Int)/ 2^24),0,0,0,0]
def zzk (r:List UInt64) (aad b:List UInt8):List UInt64:=
  zdt r (zdt r (zdt r [0,0,0,0,0] (aad++zc6 aad.length)) (b.take (b.length-b.length%16))) (b.drop (b.length-b.length%16)++zc6 b.length++zhv aad.length++zhv b.length)
end Go.Sym.Pol
namespace Go.Sym.Pol
theorem zja (n:Nat):(zc6 n).length=(16-n%16)%16:=by unfold zc6;exact List.length_replicate
theorem zh5 (n:Nat):(zhv n).length=8:=rfl
end Go.Sym.Pol
