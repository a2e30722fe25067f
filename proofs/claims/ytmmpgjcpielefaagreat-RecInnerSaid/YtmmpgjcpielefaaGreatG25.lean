/-
  Contracts of functions of the program, each said of symbolic values, and plain laws; no condition beyond each statement's own.
-/
import Derived.Test.YtmmpgjcpielefaaGreatG24
import Derived.Test.YtmmpgjcpielefaaGreatG18
import Derived.Test.YtmmpgjcpielefaaGreatG23
set_option linter.unusedSimpArgs false
set_option linter.unusedVariables false
namespace Go.Sym.Z
open Go Go.Proofs.Tryz Go.Sym.Lp Go.Sym.Cha Go.Sym.Sha Go.Sym.Hk Go.Sym.Gcm
set_option maxRecDepth 100000
def ygu:List (Nat×List PStep):= [(4,[⟨0,[]⟩,⟨1,[]⟩,⟨2,[0,1]⟩,⟨3,[0,1,2]⟩,⟨4,[0,1]⟩,⟨5,[0,1]⟩,⟨6,[0,1]⟩,⟨7,[0,1]⟩,⟨8,[]⟩,⟨9,[0,1,2,3,4,5,6,7,8]⟩,⟨10,[0,1,2,3,4,5,6,7,8]⟩,⟨11,[0,1,2,3,4,5,6,7,8]⟩,⟨12,[0,1,2,3,4,5,6,7,8]⟩,⟨13,[]⟩,⟨14,[]⟩])]
def yge:List (Nat×List PStep):= [(8,[⟨0,[]⟩,⟨1,[0]⟩,⟨2,[0,1]⟩,⟨3,[0,1,2]⟩,⟨4,[0,1,2]⟩,⟨5,[0]⟩,⟨6,[]⟩,⟨7,[]⟩]),(21,[⟨0,[]⟩,⟨1,[0]⟩,⟨2,[0,1]⟩,⟨3,[0,1,2]⟩,⟨4,[0,1,2]⟩,⟨5,[0]⟩,⟨6,[]⟩,⟨7,[]⟩]),(26,[⟨0,[]⟩,⟨1,[0]⟩,⟨2,[0]⟩,⟨3,[0]⟩,⟨4,[0]⟩,⟨5,[0]⟩,⟨8,[0,1,2,3,4,5]⟩,⟨9,[0,1,2,3,4,5]⟩,⟨10,[0,1,2,3,4,5]⟩,⟨11,[0,1,2,3,4,5]⟩,⟨12,[0,1,2,3,4,5]⟩,⟨6,[0,8,9,10,11,12]⟩,⟨7,[8,9,10,11,12]⟩,⟨13,[0,7]⟩,⟨14,[]⟩,⟨15,[]⟩])]
def ydi:List (Nat×List PStep):= []
def ygy:List (Nat×List PStep):= []
def ygf:List (Nat×List PStep):= []
def yf8:List (Nat×List PStep):= []
theorem zkd {n:Nat}:List.take n (List.drop (off []) (List.replicate n (0:UInt8)))=List.replicate n 0:=by
  show List.take n (List.drop 0 _)=_;rw [List.drop_zero];exact List.take_of_length_le (Nat.le_of_eq List.length_replicate)
attribute [local irreducible] KC HB x4 zf9 zds zjj xb b32 zfq beB zoe pdX kN
def zsy:Spec:=fun args hp K=>match args,hp with
  | [.str s,.int b,.int z],[]=>Pre (s.length≤281474976710656∧((b=64∧z=8)∨(b=128∧z=16))) (K (.str (zf9 (if b=64 then 256 else 384) s)) [])
  |_,_=>False
set_option maxHeartbeats 4000000 in
theorem z6s:zm prog 179 zsy:=by
  refine zk zcu (zc z0z zg) rfl func179 rfl call179 (D:=ygu) ?_ ?_
  ·intro args hp K h
   unfold zsy at h
   split at h
   ·exact Nat.le_of_ble_eq_true rfl
   ·exact h.elim
  ·intro args hp K h
   unfold zsy at h
   split at h
   ·rename_i s b z
    obtain ⟨⟨hs,hb⟩,hK⟩:=zl h
    clear h
    have h:=hK
    clear hK
    rcases hb with ⟨rfl,rfl⟩|⟨rfl,rfl⟩
    all_goals
      first|rw [if_pos rfl] at h|rw [if_neg (by decide)] at h
    ·obtain ⟨z,hz⟩: ∃z,z=zR 256 s.length:=⟨_,rfl⟩
     have hm0:=Int.emod_nonneg ((s.length:Int)+1+8) (show (64:Int)≠0 by decide)
     have hm1:=Int.emod_lt_of_pos ((s.length:Int)+1+8) (show (0:Int)<64 by decide)
     have hq:((s.length:Int)+1+8).tmod 64=((s.length:Int)+1+8)%64:=Int.tmod_eq_emod_of_nonneg (by omega)
     have hpm:yb (((s.length:Int)+1+8).tmod 64):=by rw [hq];unfold yb;omega
     have hfs:yb (64-((s.length:Int)+1+8).tmod 64):=by rw [hq];unfold yb;omega
     have hzz:zR 256 s.length=(64-(s.length+1+8)%64)%64+8-8:=rfl
     have hbl:=zat (8*(s.length:Int)) (Int.toNat 8)
     have hpR:zf9 256 s=s++ [128]++List.replicate z 0++beB (8*(s.length:Int)) (Int.toNat 8):=by
       unfold zf9
       rw [←hz,List.append_assoc,List.append_assoc,show ((8*s.length:Nat):Int)=8*(s.length:Int) by omega]
       rfl
     rw [hpR] at h
     by_cases he:64-((s.length:Int)+1+8).tmod 64=64
     ·have hzn:((0:Int)+8-8).toNat=z:=by rw [hz,hzz];rw [hq] at he;omega
      have hrl:(List.replicate z (0:UInt8)).length=z:=List.length_replicate
      refine za ?_
      rw [hzn]
      refine za ?_
      rw [zkd]
      refine za ?_
      exact ze [] h
     ·have hzn:(64-((s.length:Int)+1+8).tmod 64+8-8).toNat=z:=by rw [hz,hzz,hq];rw [hq] at he;omega
      have hrl:(List.replicate z (0:UInt8)).length=z:=List.length_replicate
      have hzb:z≤256:=by rw [hz,hzz];omega
      have hpos:0≤64-((s.length:Int)+1+8).tmod 64+8-8∧64-((s.length:Int)+1+8).tmod 64+8-8≤256:=by rw [hq];omega
      refine za ?_
      rw [hzn]
      refine za ?_
      rw [zkd]
      refine za ?_
      exact ze [] h
    ·obtain ⟨z,hz⟩: ∃z,z=zR 384 s.length:=⟨_,rfl⟩
     have hm0:=Int.emod_nonneg ((s.length:Int)+1+16) (show (128:Int)≠0 by decide)
     have hm1:=Int.emod_lt_of_pos ((s.length:Int)+1+16) (show (0:Int)<128 by decide)
     have hq:((s.length:Int)+1+16).tmod 128=((s.length:Int)+1+16)%128:=Int.tmod_eq_emod_of_nonneg (by omega)
     have hpm:yb (((s.length:Int)+1+16).tmod 128):=by rw [hq];unfold yb;omega
     have hfs:yb (128-((s.length:Int)+1+16).tmod 128):=by rw [hq];unfold yb;omega
     have hzz:zR 384 s.length=(128-(s.length+1+16)%128)%128+16-8:=rfl
     have hbl:=zat (8*(s.length:Int)) (Int.toNat 8)
     have hpR:zf9 384 s=s++ [128]++List.replicate z 0++beB (8*(s.length:Int)) (Int.toNat 8):=by
       unfold zf9
       rw [←hz,List.append_assoc,List.append_assoc,show ((8*s.length:Nat):Int)=8*(s.length:Int) by omega]
       rfl
     rw [hpR] at h
     by_cases he:128-((s.length:Int)+1+16).tmod 128=128
     ·have hzn:((0:Int)+16-8).toNat=z:=by rw [hz,hzz];rw [hq] at he;omega
      have hrl:(List.replicate z (0:UInt8)).length=z:=List.length_replicate
      refine za ?_
      rw [hzn]
      refine za ?_
      rw [zkd]
      refine za ?_
      exact ze [] h
     ·have hzn:(128-((s.length:Int)+1+16).tmod 128+16-8).toNat=z:=by rw [hz,hzz,hq];rw [hq] at he;omega
      have hrl:(List.replicate z (0:UInt8)).length=z:=List.length_replicate
      have hzb:z≤256:=by rw [hz,hzz];omega
      have hpos:0≤128-((s.length:Int)+1+16).tmod 128+16-8∧128-((s.length:Int)+1+16).tmod 128+16-8≤256:=by rw [hq];omega
      refine za ?_
      rw [hzn]
      refine za ?_
      rw [zkd]
      refine za ?_
      exact ze [] h
   ·exact h.elim
def z40:Spec:=fun args hp K=>match args,hp with
  | [.int n,.str s],[]=>Pre (s.length≤281474976710656) (zx (decide (n=256∨n=384)) (K (.tup [.str (x4 n s),.int 0]) []) (K (.tup [.str [],.int 200]) []))
  |_,_=>False
set_option maxHeartbeats 8000000 in
theorem yce:zm prog 169 z40:=by
  refine zk zcu (zc z6s (zc zxj (zc zv6 (zc z0z zg)))) rfl func169 rfl call169 (D:=yge) ?_ ?_
  ·intro args hp K h
   unfold z40 at h
   split at h
   ·exact Nat.le_of_ble_eq_true rfl
   ·exact h.elim
  ·intro args hp K h
   unfold z40 at h
   split at h
   ·rename_i n s
    obtain ⟨hs,h⟩:=zl h
    obtain ⟨ht,hf⟩:=zy h
    have zpq:n=256∨n=384∨(n≠256∧n≠384):=by omega
    clear h
    rcases zpq with e|e|⟨e1,e2⟩
    ·have h:=ht (decide_eq_true (.inl e))
     subst e
     have hF:=zz4 (s:=s) (by omega)
     obtain ⟨hp1,hp2,hp3⟩:=zui (n:=256) s
     have hpm:(s.length≤281474976710656∧((64:Int)=64∧(8:Int)=8∨(64:Int)=128∧(8:Int)=16)):=⟨hs,by decide⟩
     obtain ⟨P,hP⟩: ∃P,P=zf9 256 s:=⟨_,rfl⟩
     rw [←hP] at hF hp1 hp2 hp3
     have hb256:bk 256=64:=rfl
     rw [hb256] at hp1
     obtain ⟨N,hN⟩: ∃N,P.length=64*N:=⟨P.length/ 64,by omega⟩
     have hNd:P.length/ 64=N:=by omega
     rw [hNd] at hF
     rw [hF] at h
     refine za ?_
     rw [if_pos rfl,←hP]
     refine za ?_
     refine zp (Ix (N)) (fun q=>⟨[(6,.ptr 0 0 0 []),(7,.str P),(8,.int (64*(q.i:Int)))],[.mk 239 [.arr32 8 (zjj H32 P q.i)]]⟩) (fun q=>(N)-q.i) ⟨0,Nat.zero_le _⟩ [0] ?_ ?_
     ·repeat ((conv=>whnf);refine zb ?_)
      conv=>whnf
      exact zh (congrArg (fun x=>SV.agg [SV.arr32 8 x]) (show _=(zjj H32 P 0) by unfold zjj H32;decide+kernel))
     ·intro q
      have hi:=q.hi
      have hvl:(zjj H32 P q.i).length=8:=zut rfl P q.i
      have hc1:(64*(q.i:Int)).toNat=64*q.i:=by omega
      have hc2:(64*(q.i:Int)+64).toNat-(64*(q.i:Int)).toNat=64:=by omega
      by_cases h4:q.i<N
      ·have hlt:q.i+1≤N:=h4
       have hpb:(zjj H32 P q.i).length=8∧(List.take ((64*(q.i:Int)+64).toNat-(64*(q.i:Int)).toNat) (List.drop (64*(q.i:Int)).toNat P)).length=64:=⟨hvl,by rw [hc2,List.length_take,List.length_drop,hc1];omega⟩
       have hmul:64*(q.i+1)≤64*N:=Nat.mul_le_mul_left _ hlt
       refine za ?_
       conv=>whnf
       refine ⟨⟨q.i+1,h4⟩,[0],by show (N)-(q.i+1)<(N)-q.i;omega,?_⟩
       repeat ((conv=>whnf);refine zb ?_)
       conv=>whnf
       exact zh (congrArg (fun x=>SV.agg [SV.arr32 8 x]) (show _=(zjj H32 P (q.i+1)) by rw [hc2,hc1];simp only [zjj]))
      ·have e4:q.i=N:=by omega
       rw [e4] at hvl
       rw [e4]
       obtain ⟨V,hV⟩: ∃V,V=(zjj H32 P N):=⟨_,rfl⟩
       rw [←hV] at hvl h
       rw [←hV]
       clear hc1 hc2 h4 hi e4 q
       obtain ⟨W,hW⟩: ∃W,W=V.map UInt32.toUInt64:=⟨_,rfl⟩
       rw [←hW] at h
       refine za ?_
       refine zp (Ix (8)) (fun q=>⟨[(6,.ptr 0 0 0 []),(9,.str (zds W 4 q.i)),(10,.int (q.i:Int))],[.mk 239 [.arr32 8 V]]⟩) (fun q=>(8)-q.i) ⟨0,Nat.zero_le _⟩ [0] ?_ ?_
       ·repeat ((conv=>whnf);refine zb ?_)
        conv=>whnf
        exact zh (congrArg SV.str (show []=zds W 4 0 by unfold zds;rfl))
       ·intro q
        have hi:=q.hi
        have hI:((q.i:Nat):Int).toNat=q.i:=Int.toNat_natCast _
        have hx0:off (ye [] ((q.i:Nat):Int).toNat xu.sz)=q.i:=by rw [zv];show 0+((q.i:Int)).toNat*1=_;omega
        have hol:(zds W 4 q.i).length=4*q.i:=by unfold zds;exact zz _ _
        by_cases h4:q.i<8
        ·have hgx:g64 W q.i=(V.getD q.i 0).toUInt64:=by
           rw [hW];unfold g64;rw [List.getD_eq_getElem?_getD,List.getElem?_map,List.getD_eq_getElem?_getD,List.getElem?_eq_getElem (by omega)];rfl
         have hb1:=(V.getD (off (ye [] ((q.i:Nat):Int).toNat xu.sz)) 0).toNat_lt
         have hbl:=zat (((V.getD (off (ye [] ((q.i:Nat):Int).toNat xu.sz)) 0).toNat:Nat):Int) (Int.toNat 4)
         refine za ?_
         conv=>whnf
         refine ⟨⟨q.i+1,h4⟩,[0],by show (8)-(q.i+1)<(8)-q.i;omega,?_⟩
         repeat ((conv=>whnf);refine zb ?_)
         conv=>whnf
         exact zh (congrArg SV.str (show _=zds W 4 (q.i+1) by rw [z4j (by decide),hgx,be4,hx0];rfl))
        ·have e4:q.i=8:=by omega
         rw [e4]
         refine za ?_
         conv=>whnf
         exact ze [] h
    ·have h:=ht (decide_eq_true (.inr e))
     subst e
     have hF:=z0i (s:=s) (by omega)
     obtain ⟨hp1,hp2,hp3⟩:=zui (n:=384) s
     have hpm:(s.length≤281474976710656∧((128:Int)=64∧(16:Int)=8∨(128:Int)=128∧(16:Int)=16)):=⟨hs,by decide⟩
     obtain ⟨P,hP⟩: ∃P,P=zf9 384 s:=⟨_,rfl⟩
     rw [←hP] at hF hp1 hp2 hp3
     have hb384:bk 384=128:=rfl
     rw [hb384] at hp1
     obtain ⟨N,hN⟩: ∃N,P.length=128*N:=⟨P.length/ 128,by omega⟩
     have hNd:P.length/ 128=N:=by omega
     rw [hNd] at hF
     rw [hF] at h
     refine za ?_
     rw [if_neg (by decide),←hP]
     refine za ?_
     refine zp (Ix (N)) (fun q=>⟨[(11,.ptr 0 0 0 []),(12,.str P),(13,.int (128*(q.i:Int)))],[.mk 242 [.arr64 8 (xb 384 KC (HB 384) P q.i)]]⟩) (fun q=>(N)-q.i) ⟨0,Nat.zero_le _⟩ [0] ?_ ?_
     ·repeat ((conv=>whnf);refine zb ?_)
      conv=>whnf
      exact zh (congrArg (fun x=>SV.agg [SV.arr64 8 x]) (show _=(xb 384 KC (HB 384) P 0) by unfold xb HB;decide+kernel))
     ·intro q
      have hi:=q.hi
      have hvl:(xb 384 KC (HB 384) P q.i).length=8:=zep (zoy 384) P q.i
      have hc1:(128*(q.i:Int)).toNat=128*q.i:=by omega
      have hc2:(128*(q.i:Int)+128).toNat-(128*(q.i:Int)).toNat=128:=by omega
      by_cases h4:q.i<N
      ·have hlt:q.i+1≤N:=h4
       have hpb:(xb 384 KC (HB 384) P q.i).length=8∧(List.take ((128*(q.i:Int)+128).toNat-(128*(q.i:Int)).toNat) (List.drop (128*(q.i:Int)).toNat P)).length=128:=⟨hvl,by rw [hc2,List.length_take,List.length_drop,hc1];omega⟩
       have hmul:128*(q.i+1)≤128*N:=Nat.mul_le_mul_left _ hlt
       refine za ?_
       conv=>whnf
       refine ⟨⟨q.i+1,h4⟩,[0],by show (N)-(q.i+1)<(N)-q.i;omega,?_⟩
       repeat ((conv=>whnf);refine zb ?_)
       conv=>whnf
       exact zh (congrArg (fun x=>SV.agg [SV.arr64 8 x]) (show _=(xb 384 KC (HB 384) P (q.i+1)) by rw [hc2,hc1];simp only [xb,zam];rw [if_neg (by decide)];rfl))
      ·have e4:q.i=N:=by omega
       rw [e4] at hvl
       rw [e4]
       obtain ⟨V,hV⟩: ∃V,V=(xb 384 KC (HB 384) P N):=⟨_,rfl⟩
       rw [←hV] at hvl h
       rw [←hV]
       clear hc1 hc2 h4 hi e4 q
       obtain ⟨W,hW⟩: ∃W,W=V:=⟨_,rfl⟩
       rw [←hW] at h
       refine za ?_
       refine zp (Ix (6)) (fun q=>⟨[(11,.ptr 0 0 0 []),(14,.str (zds W 8 q.i)),(15,.int (q.i:Int))],[.mk 242 [.arr64 8 V]]⟩) (fun q=>(6)-q.i) ⟨0,Nat.zero_le _⟩ [0] ?_ ?_
       ·repeat ((conv=>whnf);refine zb ?_)
        conv=>whnf
        exact zh (congrArg SV.str (show []=zds W 8 0 by unfold zds;rfl))
       ·intro q
        have hi:=q.hi
        have hI:((q.i:Nat):Int).toNat=q.i:=Int.toNat_natCast _
        have hx0:off (ye [] ((q.i:Nat):Int).toNat xm.sz)=q.i:=by rw [zv];show 0+((q.i:Int)).toNat*1=_;omega
        have hol:(zds W 8 q.i).length=8*q.i:=by unfold zds;exact zz _ _
        by_cases h4:q.i<6
        ·have hgx:g64 W q.i=V.getD q.i 0:=by
           rw [hW];rfl
         obtain ⟨x,hx⟩: ∃x,x=V.getD (off (ye [] ((q.i:Nat):Int).toNat xm.sz)) 0:=⟨_,rfl⟩
         have hxl:=x.toNat_lt
         have hb0:(x>>>32).toNat<4294967296:=by
           rw [show (x>>>32).toNat=x.toNat/ 2^32 from zja _ (k:=32) (by decide)];omega
         have hb1:(x>>>UInt64.ofNat (UInt64.ofNat 32).toNat).toNat<9223372036854775808:=Nat.lt_trans hb0 (by decide)
         have hb2:(x&&&UInt64.ofNat 4294967295).toNat<9223372036854775808:=by
           rw [UInt64.toNat_and];exact Nat.lt_of_le_of_lt Nat.and_le_right (by decide)
         have hp1:0≤(((x>>>UInt64.ofNat (UInt64.ofNat 32).toNat).toNat:Nat):Int)∧(((x>>>UInt64.ofNat (UInt64.ofNat 32).toNat).toNat:Nat):Int)<9223372036854775808∧0≤(4:Int)∧(4:Int)≤64:=⟨by omega,by omega,by decide,by decide⟩
         have hp2:0≤(((x&&&UInt64.ofNat 4294967295).toNat:Nat):Int)∧(((x&&&UInt64.ofNat 4294967295).toNat:Nat):Int)<9223372036854775808∧0≤(4:Int)∧(4:Int)≤64:=⟨by omega,by omega,by decide,by decide⟩
         have hbl:=zat (((x>>>UInt64.ofNat (UInt64.ofNat 32).toNat).toNat:Nat):Int) (Int.toNat 4)
         have hbl2:=zat (((x&&&UInt64.ofNat 4294967295).toNat:Nat):Int) (Int.toNat 4)
         rw [hx] at hb1 hb2 hp1 hp2 hbl hbl2
         have hq1:(zds W 8 q.i).length+(beB (((V.getD (off (ye [] ((q.i:Nat):Int).toNat xm.sz)) 0>>>UInt64.ofNat (UInt64.ofNat 32).toNat).toNat:Nat):Int) (Int.toNat 4)).length<9223372036854775808:=by omega
         have hq2:(zds W 8 q.i++beB (((V.getD (off (ye [] ((q.i:Nat):Int).toNat xm.sz)) 0>>>UInt64.ofNat (UInt64.ofNat 32).toNat).toNat:Nat):Int) (Int.toNat 4)).length+(beB (((V.getD (off (ye [] ((q.i:Nat):Int).toNat xm.sz)) 0&&&UInt64.ofNat 4294967295).toNat:Nat):Int) (Int.toNat 4)).length<9223372036854775808:=by rw [List.length_append];omega
         refine za ?_
         conv=>whnf
         refine ⟨⟨q.i+1,h4⟩,[0],by show (6)-(q.i+1)<(6)-q.i;omega,?_⟩
         repeat ((conv=>whnf);refine zb ?_)
         conv=>whnf
         exact zh (congrArg SV.str (show _=zds W 8 (q.i+1) by rw [z4j (by decide),hgx,yh4,hx0];rw [List.append_assoc];rfl))
        ·have e4:q.i=6:=by omega
         rw [e4]
         refine za ?_
         conv=>whnf
         exact ze [] h
    ·have h:=hf (decide_eq_false (by omega))
     refine za ?_
     exact ze [] h
   ·exact h.elim
end Go.Sym.Z

namespace Go.Sym.Z
open Go Go.Proofs.Tryz Go.Sym.Lp Go.Sym.Cha Go.Sym.Sha Go.Sym.Hk Go.Sym.Gcm
set_option maxRecDepth 100000
attribute [local irreducible] KC HB x4 zf9 zds zjj xb b32 zfq beB zoe pdX kN
def z2o:Spec:=fun args hp K=>match args,hp with
  | [.int n,.str s],[]=>Pre (s.length≤281474976710656∧(n=256∨n=384)) (K (.str (x4 n s)) [])
  |_,_=>False
theorem ybp:zm prog 152 z2o:=by
  refine zk zcu (zc yce zg) rfl func152 rfl call152 (D:=ydi) ?_ ?_
  ·intro args hp K h
   unfold z2o at h
   split at h
   ·exact Nat.le_of_ble_eq_true rfl
   ·exact h.elim
  ·intro args hp K h
   unfold z2o at h
   split at h
   ·rename_i n s
    obtain ⟨⟨hs,hn⟩,h⟩:=zl h
    have hd:=decide_eq_true hn
    repeat ((conv=>whnf);first|refine zu ?_|refine zi ?_|refine zj ?_|refine zb ?_|refine zw (by first|exact hd) ?_|refine zo (by first|exact hd) ?_|refine zn (by first|exact hd) ?_)
    conv=>whnf
    exact ze [] h
   ·exact h.elim
def ya8:Spec:=fun args hp K=>match args,hp with
  | [.int n],[]=>K (.bool (decide (n=256∨n=384))) []
  |_,_=>False
theorem ycm:zm prog 122 ya8:=by
  refine zk zcu zg rfl func122 rfl call122 (D:=ygf) ?_ ?_
  ·intro args hp K h
   unfold ya8 at h
   split at h
   ·exact Nat.le_of_ble_eq_true rfl
   ·exact h.elim
  ·intro args hp K h
   unfold ya8 at h
   split at h
   ·rename_i n
    have zpq:n=256∨n=384∨(n≠256∧n≠384):=by omega
    rcases zpq with e|e|⟨e1,e2⟩
    ·rw [decide_eq_true (.inl e)] at h
     refine za ?_
     exact ze [] h
    ·rw [decide_eq_true (.inr e)] at h
     refine za ?_
     refine yv (hp':= []) [] h ?_
     repeat ((conv=>whnf);refine zb ?_)
     conv=>whnf
     exact zh (congrArg SV.bool (decide_eq_true e))
    ·rw [decide_eq_false (by omega)] at h
     refine za ?_
     refine yv (hp':= []) [] h ?_
     repeat ((conv=>whnf);refine zb ?_)
     conv=>whnf
     exact zh (congrArg SV.bool (decide_eq_false e2))
   ·exact h.elim
def zed (s:List UInt8) (b:UInt8) (n i:Nat):List UInt8:=(List.range n).map fun j=>if j<i then s.getD j 0^^^b else 0
theorem z0t (s:List UInt8) (b:UInt8) (n i:Nat):(zed s b n i).length=n:=zz _ _
theorem zp7 {s:List UInt8} {n i:Nat} (hn:i<n) (b:UInt8):(zed s b n i).set i (s.getD i 0^^^b)=zed s b n (i+1):=by
  unfold zed
  apply List.ext_getElem?
  intro j
  rw [List.getElem?_set,List.getElem?_map,List.getElem?_map]
  by_cases hij:i=j
  ·subst hij
   rw [if_pos rfl,if_pos (by simp;omega),List.getElem?_range hn,Option.map_some,if_pos (by omega)]
  ·rw [if_neg hij]
   by_cases hj:j<n
   ·rw [List.getElem?_range hj,Option.map_some,Option.map_some]
    by_cases h2:j<i
    ·rw [if_pos h2,if_pos (by omega)]
    ·rw [if_neg h2,if_neg (by omega)]
   ·rw [List.getElem?_eq_none (by simp;omega)];rfl
theorem z1p {s:List UInt8} {n i:Nat} (hs: ¬i<s.length) (hn:i<n) (b:UInt8):(zed s b n i).set i b=zed s b n (i+1):=by
  have z:s.getD i 0=0:=by rw [List.getD_eq_getElem?_getD,List.getElem?_eq_none (by omega)];rfl
  have:=zp7 (s:=s) hn b
  rw [z,UInt8.zero_xor] at this
  exact this
theorem z73 (s:List UInt8) (b:UInt8) (n:Nat):zed s b n 0=List.replicate n 0:=by
  unfold zed
  rw [yi (g':=fun _=>0) fun i hi=>if_neg (by omega),List.map_const',List.length_range]
theorem z9i (s:List UInt8) (b:UInt8) (n:Nat):zed s b n n=pdX n s b:=by
  unfold zed
  rw [yi (g':=fun i=>s.getD i 0^^^b) fun i hi=>if_pos hi]
  unfold pdX;rfl
attribute [local irreducible] zed
def zvw:Spec:=fun args hp K=>match args,hp with
  | [.str s,.u8 b,.int n],[]=>Pre (0≤n∧n≤1000) (K (.str (pdX n.toNat s b)) [])
  |_,_=>False
set_option maxHeartbeats 4000000 in
theorem z95:zm prog 153 zvw:=by
  refine zk zcu zg rfl func153 rfl call153 (D:=ygy) ?_ ?_
  ·intro args hp K h
   unfold zvw at h
   split at h
   ·exact Nat.le_of_ble_eq_true rfl
   ·exact h.elim
  ·intro args hp K h
   unfold zvw at h
   split at h
   ·rename_i s b n
    obtain ⟨⟨h0,h1⟩,h⟩:=zl h
    obtain ⟨z,rfl⟩:=Int.eq_ofNat_of_zero_le h0
    rw [Int.toNat_natCast] at h
    have hzz:((z:Nat):Int).toNat=z:=Int.toNat_natCast _
    refine za ?_
    refine zp (Ix (z)) (fun q=>⟨[(0,.str s),(1,.u8 b),(2,.int z),(7,.sl 0 0 0 [] z z),(8,.int (q.i:Int))],[.mk 5 [.arr8 z (zed s b z q.i)]]⟩) (fun q=>(z)-q.i) ⟨0,Nat.zero_le _⟩ [0] ?_ ?_
    ·repeat ((conv=>whnf);refine zb ?_)
     conv=>whnf
     exact zh (congrArg (fun x=>SV.agg [SV.arr8 z x]) (z73 s b z).symm)
    ·intro q
     have hi:=q.hi
     have hl:=z0t s b z q.i
     have hI:((q.i:Nat):Int).toNat=q.i:=Int.toNat_natCast _
     have hx0:off (ye [] ((q.i:Nat):Int).toNat ty5.sz)=q.i:=by rw [zv];show 0+((q.i:Int)).toNat*1=_;omega
     by_cases h4:q.i<z
     ·by_cases h5:q.i<s.length
      ·refine za ?_
       conv=>whnf
       refine ⟨⟨q.i+1,h4⟩,[0],by show (z)-(q.i+1)<(z)-q.i;omega,?_⟩
       repeat ((conv=>whnf);refine zb ?_)
       conv=>whnf
       exact zh (congrArg (fun x=>SV.agg [SV.arr8 z x]) (show _=zed s b z (q.i+1) by rw [hx0,hI,List.set_set];exact zp7 h4 b))
      ·refine za ?_
       conv=>whnf
       refine ⟨⟨q.i+1,h4⟩,[0],by show (z)-(q.i+1)<(z)-q.i;omega,?_⟩
       repeat ((conv=>whnf);refine zb ?_)
       conv=>whnf
       exact zh (congrArg (fun x=>SV.agg [SV.arr8 z x]) (show _=zed s b z (q.i+1) by rw [hx0];exact z1p h5 h4 b))
     ·have e4:q.i=z:=by omega
      have hpl:(pdX z s b).length=z:=zar z s b
      have hT:List.take z (List.drop (off []) (pdX z s b))=pdX z s b:=by
        show List.take z (List.drop 0 _)=_;rw [List.drop_zero];exact List.take_of_length_le (Nat.le_of_eq hpl)
      rw [e4,z9i]
      refine za ?_
      rw [hT]
      conv=>whnf
      exact ze [] h
   ·exact h.elim
def yb3:Spec:=fun args hp K=>match args,hp with
  | [.int n,.str key,.str s],[]=>Pre ((n=256∨n=384)∧key.length≤140737488351232∧s.length≤140737488351232) (K (.str (zoe n key s)) [])
  |_,_=>False
set_option maxHeartbeats 4000000 in
theorem yft:zm prog 123 yb3:=by
  refine zk zcu (zc ybp (zc z95 zg)) rfl func123 rfl call123 (D:=yf8) ?_ ?_
  ·intro args hp K h
   unfold yb3 at h
   split at h
   ·exact Nat.le_of_ble_eq_true rfl
   ·exact h.elim
  ·intro args hp K h
   unfold yb3 at h
   split at h
   ·rename_i n key s
    obtain ⟨⟨hn,hk,hs⟩,hh0⟩:=zl h
    clear h
    have h:=hh0
    clear hh0
    rw [z61 key s (by omega) hn] at h
    have hh: ∀x,(x4 n x).length=dl n:=fun x=>zmr hn x
    have hdl:dl n≤48:=by unfold dl;split<;>decide
    have p54:=zar (bk n) (kN n key) 54
    have p92:=zar (bk n) (kN n key) 92
    have hbk:bk n≤128:=by rcases zxi n with e|e<;>omega
    have g1:(pdX (bk n) (kN n key) 54++s).length≤281474976710656∧(n=256∨n=384):=⟨by rw [List.length_append,p54];omega,hn⟩
    have g2:(pdX (bk n) (kN n key) 92++x4 n (pdX (bk n) (kN n key) 54++s)).length≤281474976710656∧(n=256∨n=384):=⟨by rw [List.length_append,p92,hh];omega,hn⟩
    have g3:(pdX (bk n) (kN n key) 54).length+s.length<9223372036854775808:=by omega
    have g4:(pdX (bk n) (kN n key) 92).length+(x4 n (pdX (bk n) (kN n key) 54++s)).length<9223372036854775808:=by rw [hh];omega
    have hkl:key.length≤281474976710656∧(n=256∨n=384):=⟨by omega,hn⟩
    rcases hn with e|e
    ·subst e
     rw [show bk 256=64 from rfl] at g1 g2 g3 g4 h
     by_cases hb:64<key.length
     ·have hkn:kN 256 key=x4 256 key:=by unfold kN;exact if_pos hb
      rw [hkn] at g1 g2 g3 g4 h
      have k1:((pdX (Int.toNat 64) (x4 256 key) (UInt8.ofNat 54))++s).length≤281474976710656∧((256:Int)=256∨(256:Int)=384):=g1
      have k2:((pdX (Int.toNat 64) (x4 256 key) (UInt8.ofNat 92))++x4 256 ((pdX (Int.toNat 64) (x4 256 key) (UInt8.ofNat 54))++s)).length≤281474976710656∧((256:Int)=256∨(256:Int)=384):=g2
      have k3:(pdX (Int.toNat 64) (x4 256 key) (UInt8.ofNat 54)).length+s.length<9223372036854775808:=g3
      have k4:(pdX (Int.toNat 64) (x4 256 key) (UInt8.ofNat 92)).length+(x4 256 ((pdX (Int.toNat 64) (x4 256 key) (UInt8.ofNat 54))++s)).length<9223372036854775808:=g4
      refine za ?_
      conv=>whnf
      exact ze [] h
     ·have hkn:kN 256 key=key:=by unfold kN;exact if_neg hb
      rw [hkn] at g1 g2 g3 g4 h
      have k1:((pdX (Int.toNat 64) key (UInt8.ofNat 54))++s).length≤281474976710656∧((256:Int)=256∨(256:Int)=384):=g1
      have k2:((pdX (Int.toNat 64) key (UInt8.ofNat 92))++x4 256 ((pdX (Int.toNat 64) key (UInt8.ofNat 54))++s)).length≤281474976710656∧((256:Int)=256∨(256:Int)=384):=g2
      have k3:(pdX (Int.toNat 64) key (UInt8.ofNat 54)).length+s.length<9223372036854775808:=g3
      have k4:(pdX (Int.toNat 64) key (UInt8.ofNat 92)).length+(x4 256 ((pdX (Int.toNat 64) key (UInt8.ofNat 54))++s)).length<9223372036854775808:=g4
      refine za ?_
      conv=>whnf
      exact ze [] h
    ·subst e
     rw [show bk 384=128 from rfl] at g1 g2 g3 g4 h
     by_cases hb:128<key.length
     ·have hkn:kN 384 key=x4 384 key:=by unfold kN;exact if_pos hb
      rw [hkn] at g1 g2 g3 g4 h
      have k1:((pdX (Int.toNat 128) (x4 384 key) (UInt8.ofNat 54))++s).length≤281474976710656∧((384:Int)=256∨(384:Int)=384):=g1
      have k2:((pdX (Int.toNat 128) (x4 384 key) (UInt8.ofNat 92))++x4 384 ((pdX (Int.toNat 128) (x4 384 key) (UInt8.ofNat 54))++s)).length≤281474976710656∧((384:Int)=256∨(384:Int)=384):=g2
      have k3:(pdX (Int.toNat 128) (x4 384 key) (UInt8.ofNat 54)).length+s.length<9223372036854775808:=g3
      have k4:(pdX (Int.toNat 128) (x4 384 key) (UInt8.ofNat 92)).length+(x4 384 ((pdX (Int.toNat 128) (x4 384 key) (UInt8.ofNat 54))++s)).length<9223372036854775808:=g4
      refine za ?_
      conv=>whnf
      exact ze [] h
     ·have hkn:kN 384 key=key:=by unfold kN;exact if_neg hb
      rw [hkn] at g1 g2 g3 g4 h
      have k1:((pdX (Int.toNat 128) key (UInt8.ofNat 54))++s).length≤281474976710656∧((384:Int)=256∨(384:Int)=384):=g1
      have k2:((pdX (Int.toNat 128) key (UInt8.ofNat 92))++x4 384 ((pdX (Int.toNat 128) key (UInt8.ofNat 54))++s)).length≤281474976710656∧((384:Int)=256∨(384:Int)=384):=g2
      have k3:(pdX (Int.toNat 128) key (UInt8.ofNat 54)).length+s.length<9223372036854775808:=g3
      have k4:(pdX (Int.toNat 128) key (UInt8.ofNat 92)).length+(x4 384 ((pdX (Int.toNat 128) key (UInt8.ofNat 54))++s)).length<9223372036854775808:=g4
      refine za ?_
      conv=>whnf
      exact ze [] h
   ·exact h.elim
end Go.Sym.Z

namespace Go.Sym.Z
open Go Go.Proofs.Tryz Go.Sym.Lp Go.Sym.Cha
set_option maxRecDepth 100000
def yd2:List (Nat×List PStep):= []
def ygi:List (Nat×List PStep):= [(1,[⟨0,[]⟩,⟨1,[]⟩,⟨2,[]⟩,⟨3,[0,1,2]⟩,⟨4,[0,1,2]⟩,⟨5,[0,1,2]⟩,⟨6,[0,1,2]⟩,⟨7,[]⟩,⟨8,[0,1,2,3,4,5,6,7]⟩,⟨9,[0,1,2,3,4,5,6,7]⟩,⟨10,[0,1,2,3,4,5,6,7]⟩,⟨11,[0,1,2,3,4,5,6,7]⟩,⟨12,[]⟩,⟨13,[0,1,2,3,4,5,6,7,8,9,10,11,12]⟩,⟨14,[0,1,2,3,4,5,6,7,8,9,10,11,12]⟩,⟨15,[0,1,2,3,4,5,6,7,8,9,10,11,12]⟩,⟨16,[0,1,2,3,4,5,6,7,8,9,10,11,12]⟩,⟨17,[]⟩,⟨18,[]⟩])]
def ygh:List (Nat×List PStep):= []
def yev:List (Nat×List PStep):= [(0,[⟨0,[]⟩,⟨1,[0]⟩,⟨2,[1]⟩,⟨3,[]⟩,⟨4,[]⟩,⟨5,[0,1,2,3,4]⟩,⟨6,[0,1,2,3,4,5]⟩,⟨7,[0,1,2,3,4,6]⟩,⟨8,[0,1,2,3,4]⟩,⟨9,[0,1,2,3,4]⟩,⟨10,[]⟩,⟨11,[1,2,3,4,5,6,7,8,9,10]⟩,⟨12,[]⟩,⟨13,[]⟩]),(1,[⟨0,[]⟩,⟨1,[0]⟩,⟨2,[0,1]⟩,⟨3,[0,1,2]⟩,⟨4,[0,1,3]⟩,⟨5,[0,1]⟩,⟨6,[0,1]⟩,⟨7,[0,1,2,3,4,5,6]⟩,⟨8,[0,1,2,3,4,5,6,7]⟩,⟨9,[0,1,2,3,4,5,6,8]⟩,⟨10,[0,1,2,3,4,5,6]⟩,⟨11,[0,1,2,3,4,5,6]⟩,⟨12,[0,1]⟩,⟨14,[1,2,3,4,5,6,7,8,9,10,11,12]⟩,⟨13,[0,1,14]⟩,⟨15,[]⟩,⟨16,[]⟩]),(2,[⟨0,[]⟩,⟨1,[0]⟩,⟨2,[1]⟩,⟨3,[]⟩,⟨4,[]⟩,⟨5,[0,1,2,3,4]⟩,⟨6,[0,1,2,3,4,5]⟩,⟨7,[0,1,2,3,4,6]⟩,⟨8,[0,1,2,3,4]⟩,⟨9,[0,1,2,3,4]⟩,⟨10,[]⟩,⟨11,[1,2,3,4,5,6,7,8,9,10]⟩,⟨12,[]⟩,⟨13,[]⟩]),(3,[⟨0,[]⟩,⟨1,[0]⟩,⟨2,[0,1]⟩,⟨3,[0,1,2]⟩,⟨4,[0,1,3]⟩,⟨5,[0,1]⟩,⟨6,[0,1]⟩,⟨7,[0,1,2,3,4,5,6]⟩,⟨8,[0,1,2,3,4,5,6,7]⟩,⟨9,[0,1,2,3,4,5,6,8]⟩,⟨10,[0,1,2,3,4,5,6]⟩,⟨11,[0,1,2,3,4,5,6]⟩,⟨12,[0,1]⟩,⟨14,[1,2,3,4,5,6,7,8,9,10,11,12]⟩,⟨13,[0,1,14]⟩,⟨15,[]⟩,⟨16,[]⟩]),(4,[⟨0,[]⟩,⟨1,[0]⟩,⟨2,[1]⟩,⟨3,[]⟩,⟨4,[]⟩,⟨5,[0,1,2,3,4]⟩,⟨6,[0,1,2,3,4,5]⟩,⟨7,[0,1,2,3,4,6]⟩,⟨8,[0,1,2,3,4]⟩,⟨9,[0,1,2,3,4]⟩,⟨10,[]⟩,⟨11,[1,2,3,4,5,6,7,8,9,10]⟩,⟨12,[]⟩,⟨13,[]⟩]),(5,[⟨0,[]⟩,⟨1,[0]⟩,⟨2,[0,1]⟩,⟨3,[0,1,2]⟩,⟨4,[0,1,3]⟩,⟨5,[0,1]⟩,⟨6,[0,1]⟩,⟨7,[0,1,2,3,4,5,6]⟩,⟨8,[0,1,2,3,4,5,6,7]⟩,⟨9,[0,1,2,3,4,5,6,8]⟩,⟨10,[0,1,2,3,4,5,6]⟩,⟨11,[0,1,2,3,4,5,6]⟩,⟨12,[0,1]⟩,⟨14,[1,2,3,4,5,6,7,8,9,10,11,12]⟩,⟨13,[0,1,14]⟩,⟨15,[]⟩,⟨16,[]⟩]),(6,[⟨0,[]⟩,⟨1,[0]⟩,⟨2,[1]⟩,⟨3,[]⟩,⟨4,[]⟩,⟨5,[0,1,2,3,4]⟩,⟨6,[0,1,2,3,4,5]⟩,⟨7,[0,1,2,3,4,6]⟩,⟨8,[0,1,2,3,4]⟩,⟨9,[0,1,2,3,4]⟩,⟨10,[]⟩,⟨11,[1,2,3,4,5,6,7,8,9,10]⟩,⟨12,[]⟩,⟨13,[]⟩]),(7,[⟨0,[]⟩,⟨1,[0]⟩,⟨2,[0,1]⟩,⟨3,[0,1,2]⟩,⟨4,[0,1,3]⟩,⟨5,[0,1]⟩,⟨6,[0,1]⟩,⟨7,[0,1,2,3,4,5,6]⟩,⟨8,[0,1,2,3,4,5,6,7]⟩,⟨9,[0,1,2,3,4,5,6,8]⟩,⟨10,[0,1,2,3,4,5,6]⟩,⟨11,[0,1,2,3,4,5,6]⟩,⟨12,[0,1]⟩,⟨14,[1,2,3,4,5,6,7,8,9,10,11,12]⟩,⟨13,[0,1,14]⟩,⟨15,[]⟩,⟨16,[]⟩])]
def yf1:List (Nat×List PStep):= [(19,[⟨0,[]⟩,⟨1,[0]⟩,⟨2,[0]⟩,⟨3,[0]⟩,⟨4,[0]⟩,⟨5,[0,1,2,3,4]⟩,⟨6,[0,1,2,3,4]⟩,⟨7,[0,1,2,3,4]⟩,⟨8,[0,1,2,3,4]⟩,⟨9,[0]⟩,⟨10,[0,1,2,3,4,5,6,7,8,9]⟩,⟨11,[0,1,2,3,4,5,6,7,8,9]⟩,⟨12,[0,1,2,3,4,5,6,7,8,9]⟩,⟨13,[0]⟩,⟨14,[0]⟩,⟨15,[]⟩,⟨16,[]⟩])]
def yfy:List (Nat×List PStep):= [(1,[⟨0,[]⟩,⟨1,[0]⟩,⟨2,[]⟩,⟨3,[]⟩,⟨4,[0,1,2,3]⟩,⟨5,[0,1,2,3,4]⟩,⟨6,[0,1,2,3,4]⟩,⟨7,[0,1,2,3]⟩,⟨8,[0,1,2,3]⟩,⟨9,[0,1,2,3]⟩,⟨10,[]⟩,⟨11,[0,1,2,3,4,5,6,7,8,9,10]⟩,⟨12,[0,1,2,3,4,5,6,7,8,9,10,11]⟩,⟨13,[0,1,2,3,4,5,6,7,8,9,10,11]⟩,⟨14,[0,1,2,3,4,5,6,7,8,9,10]⟩,⟨15,[0,1,2,3,4,5,6,7,8,9,10]⟩,⟨16,[0,1,2,3,4,5,6,7,8,9,10]⟩,⟨17,[]⟩,⟨18,[0,1,2,3,4,5,6,7,8,9,10,11,12,13,14,15,16,17]⟩,⟨19,[0,1,2,3,4,5,6,7,8,9,10,11,12,13,14,15,16,17,18]⟩,⟨20,[0,1,2,3,4,5,6,7,8,9,10,11,12,13,14,15,16,17,18]⟩,⟨21,[0,1,2,3,4,5,6,7,8,9,10,11,12,13,14,15,16,17]⟩,⟨22,[0,1,2,3,4,5,6,7,8,9,10,11,12,13,14,15,16,17]⟩,⟨23,[0,1,2,3,4,5,6,7,8,9,10,11,12,13,14,15,16,17]⟩,⟨24,[]⟩,⟨25,[]⟩])]
def ydz:List (Nat×List PStep):= [(1,[⟨0,[]⟩,⟨1,[0]⟩,⟨2,[]⟩,⟨3,[0,1,2]⟩,⟨4,[0,1,2,3]⟩,⟨5,[0,1,2,3]⟩,⟨6,[0,1,2]⟩,⟨7,[]⟩,⟨8,[]⟩])]
def ye4:List (Nat×List PStep):= [(1,[⟨0,[]⟩,⟨1,[0]⟩,⟨2,[0]⟩,⟨3,[0]⟩,⟨4,[0,1,2,3]⟩,⟨5,[0,1,2,3]⟩,⟨6,[0,1,2,3]⟩,⟨7,[0]⟩,⟨8,[]⟩,⟨9,[]⟩]),(2,[⟨0,[]⟩,⟨1,[0]⟩,⟨2,[0]⟩,⟨3,[0]⟩,⟨4,[0,1,2,3]⟩,⟨5,[0,1,2,3]⟩,⟨6,[0,1,2,3]⟩,⟨7,[0]⟩,⟨8,[0]⟩,⟨9,[]⟩,⟨10,[]⟩]),(3,[⟨0,[]⟩,⟨1,[0]⟩,⟨2,[0]⟩,⟨3,[0]⟩,⟨4,[0,1,2,3]⟩,⟨5,[0,1,2,3]⟩,⟨6,[0,1,2,3]⟩,⟨7,[0]⟩,⟨8,[]⟩,⟨9,[]⟩]),(4,[⟨0,[]⟩,⟨1,[0]⟩,⟨2,[0]⟩,⟨3,[0]⟩,⟨4,[0,1,2,3]⟩,⟨5,[0,1,2,3]⟩,⟨6,[0,1,2,3]⟩,⟨7,[0]⟩,⟨8,[0]⟩,⟨9,[]⟩,⟨10,[]⟩]),(5,[⟨0,[]⟩,⟨1,[0]⟩,⟨2,[0]⟩,⟨3,[0]⟩,⟨4,[0,1,2,3]⟩,⟨5,[0,1,2,3]⟩,⟨6,[0,1,2,3]⟩,⟨7,[0]⟩,⟨8,[]⟩,⟨9,[]⟩]),(6,[⟨0,[]⟩,⟨1,[0]⟩,⟨2,[0]⟩,⟨3,[0]⟩,⟨4,[0,1,2,3]⟩,⟨5,[0,1,2,3]⟩,⟨6,[0,1,2,3]⟩,⟨7,[0]⟩,⟨8,[0]⟩,⟨9,[]⟩,⟨10,[]⟩]),(7,[⟨0,[]⟩,⟨1,[0]⟩,⟨2,[0]⟩,⟨3,[0]⟩,⟨4,[0,1,2,3]⟩,⟨5,[0,1,2,3]⟩,⟨6,[0,1,2,3]⟩,⟨7,[0]⟩,⟨8,[]⟩,⟨9,[]⟩]),(8,[⟨0,[]⟩,⟨1,[0]⟩,⟨2,[0]⟩,⟨3,[0]⟩,⟨4,[0,1,2,3]⟩,⟨5,[0,1,2,3]⟩,⟨6,[0,1,2,3]⟩,⟨7,[0]⟩,⟨8,[0]⟩,⟨9,[]⟩,⟨10,[]⟩])]
def yfc:List (Nat×TyI):= [(3,ty3),(4,ty4),(5,ty5),(9,ty9),(48,zd3),(51,zd6),(113,xu),(187,zgj),(164,zgg),(188,zgi),(235,zhn)]
theorem zai: ∀t i,y9 yfc t=some i→yx prog t i:=(zd zda (zd zc8 (zd zc9 (zd zdf (zd zbq (zd zbr (zd zbh (zd z6a (zd z7f (zd z4a (zd z4r zau)))))))))))
theorem yfi {k:Int}:(UInt64.ofInt k&&&UInt64.ofNat 31).toNat=(k%32).toNat:=by
  rw [UInt64.toNat_and,show (UInt64.ofNat 31).toNat=2^5-1 by decide,Nat.and_two_pow_sub_one_eq_mod]
  have h:(UInt64.ofInt k).toNat=(k%18446744073709551616).toNat:=by
    unfold UInt64.ofInt
    rw [UInt64.toNat_ofNat']
    have:=Int.emod_nonneg k (show (2^64:Int)≠0 by decide)
    have:=Int.emod_lt_of_pos k (show (0:Int)<2^64 by decide)
    omega
  rw [h]
  omega
def zvy:Spec:=fun args hp K=>match args,hp with
  | [.u32 x,.int k],[]=>Pre (k%32≠0) (K (.u32 (zgu x (k%32).toNat)) [])
  |_,_=>False
theorem zx8:zm prog 176 zvy:=by
  refine zk zai zg rfl func176 rfl call176 (D:=yd2) ?_ ?_
  ·intro args hp K h
   unfold zvy at h
   split at h
   ·exact Nat.le_of_ble_eq_true rfl
   ·exact h.elim
  ·intro args hp K h
   unfold zvy at h
   split at h
   ·rename_i x k
    obtain ⟨hk,h⟩:=zl h
    have hs:=yfi (k:=k)
    have hm:=Int.emod_lt_of_pos k (show (0:Int)<32 by decide)
    have hm0:=Int.emod_nonneg k (show (32:Int)≠0 by decide)
    have hd:(UInt64.ofNat 32-(UInt64.ofInt k&&&UInt64.ofNat 31)).toNat=32-(k%32).toNat:=by
      rw [UInt64.toNat_sub_of_le _ _ (by rw [UInt64.le_iff_toNat_le,hs];show _≤32;omega),hs];rfl
    refine za ?_
    rw [hs,hd]
    conv=>whnf
    exact ze [] h
   ·exact h.elim
def z4b:Spec:=fun args hp K=>match args,hp with
  | [.str s],[]=>Pre (4≤s.length) (K (.u32 (wd s 0)) [])
  |_,_=>False
theorem yci:zm prog 160 z4b:=by
  refine zk zai zg rfl func160 rfl call160 (D:=ygi) ?_ ?_
  ·intro args hp K h
   unfold z4b at h
   split at h
   ·exact Nat.le_of_ble_eq_true rfl
   ·exact h.elim
  ·intro args hp K h
   unfold z4b at h
   split at h
   ·rename_i s
    obtain ⟨hs,h⟩:=zl h
    refine za ?_
    exact ze [] h
   ·exact h.elim
def leS:Spec:=fun args hp K=>match args,hp with
  | [.str s,.int a],[]=>Pre (0≤a∧a+4≤s.length∧s.length≤9223372036854775807) (K (.u32 (wd s a.toNat)) [])
  |_,_=>False
theorem yir:zm prog 124 leS:=by
  refine zk zai zg rfl func124 rfl call124 (D:=yfy) ?_ ?_
  ·intro args hp K h
   unfold leS at h
   split at h
   ·exact Nat.le_of_ble_eq_true rfl
   ·exact h.elim
  ·intro args hp K h
   unfold leS at h
   split at h
   ·rename_i s a
    obtain ⟨⟨ha,hs,hs2⟩,h⟩:=zl h
    have e1:(a+1).toNat=a.toNat+1:=by omega
    have e2:(a+2).toNat=a.toNat+2:=by omega
    have e3:(a+3).toNat=a.toNat+3:=by omega
    refine za ?_
    rw [e1,e2,e3]
    conv=>whnf
    exact ze [] h
   ·exact h.elim
def z6j:Spec:=fun args hp K=>match args,hp with
  | [.u32 x,.int k],[]=>Pre (0<k∧k<32) (K (.u32 (zgu x k.toNat)) [])
  |_,_=>False
theorem ybg:zm prog 154 z6j:=by
  refine zk zai zg rfl func154 rfl call154 (D:=ydz) ?_ ?_
  ·intro args hp K h
   unfold z6j at h
   split at h
   ·exact Nat.le_of_ble_eq_true rfl
   ·exact h.elim
  ·intro args hp K h
   unfold z6j at h
   split at h
   ·rename_i x k
    obtain ⟨hk,h⟩:=zl h
    have e1:(32-k).toNat=32-k.toNat:=by omega
    refine za ?_
    rw [e1]
    conv=>whnf
    exact ze [] h
   ·exact h.elim
def zou:Spec:=fun args hp K=>match args,hp with
  | [.ptr 0 0 0 [],.int a,.int b,.int c,.int d],[.mk t [.arr32 16 x]]=>Pre (x.length=16∧(0≤a∧a<16)∧(0≤b∧b<16)∧(0≤c∧c<16)∧(0≤d∧d<16)) (K (.tup []) [.mk t [.arr32 16 (qr x a.toNat b.toNat c.toNat d.toNat)]])
  |_,_=>False
theorem zz7:zm prog 161 zou:=by
  refine zk zai (zc zx8 zg) rfl func161 rfl call161 (D:=yev) ?_ ?_
  ·intro args hp K h
   unfold zou at h
   split at h
   ·exact Nat.le_of_ble_eq_true rfl
   ·exact h.elim
  ·intro args hp K h
   unfold zou at h
   split at h
   ·rename_i a b c d t x
    obtain ⟨⟨hx,ha,hb,hc,hd⟩,h⟩:=zl h
    refine za ?_
    exact ze [0] h
   ·exact h.elim
def zk7:Spec:=fun args hp K=>match args,hp with
  | [.arr32 16 x,.int a,.int b,.int c,.int d],[]=>Pre (x.length=16∧(0≤a∧a<16)∧(0≤b∧b<16)∧(0≤c∧c<16)∧(0≤d∧d<16)) (K (.arr32 16 (qr x a.toNat b.toNat c.toNat d.toNat)) [])
  |_,_=>False
theorem zws:zm prog 125 zk7:=by
  refine zk zai (zc ybg zg) rfl func125 rfl call125 (D:=ye4) ?_ ?_
  ·intro args hp K h
   unfold zk7 at h
   split at h
   ·exact Nat.le_of_ble_eq_true rfl
   ·exact h.elim
  ·intro args hp K h
   unfold zk7 at h
   split at h
   ·rename_i x a b c d
    obtain ⟨⟨hx,ha,hb,hc,hd⟩,h⟩:=zl h
    refine za ?_
    exact ze [] h
   ·exact h.elim
def zwf:Spec:=fun args hp K=>match args,hp with
  | [.str key,.str nonce,.u32 n],[]=>Pre (key.length=32∧nonce.length=12) (K (.arr32 16 (beg key nonce n)) [])
  |_,_=>False
attribute [local irreducible] qr wd zgu
theorem zyh:zm prog 137 zwf:=by
  refine zk zai (zc yci zg) rfl func137 rfl call137 (D:=ygh) ?_ ?_
  ·intro args hp K h
   unfold zwf at h
   split at h
   ·exact Nat.le_of_ble_eq_true rfl
   ·exact h.elim
  ·intro args hp K h
   unfold zwf at h
   split at h
   ·rename_i key nonce n
    obtain ⟨⟨hk,hn⟩,h⟩:=zl h
    refine za ?_
    refine zp (Ix (8)) (fun q=>⟨[(0,.str key),(1,.str nonce),(2,.u32 n),(6,.ptr 0 0 0 []),(7,.ptr 1 0 0 []),(11,.int q.i)],[.mk 188 [.arr32 16 (List.replicate 16 0)],.mk 188 [.arr32 16 (ovr c0 4 (fun i=>wd key (4*i)) q.i)]]⟩) (fun q=>(8)-q.i) ⟨0,Nat.zero_le _⟩ [0,1] ?_ ?_
    ·exact zt
    ·intro q
     have hi:=q.hi
     have hI:((4:Int)+(q.i:Int)).toNat=4+q.i:=by omega
     have hl0:=z34
     have hlo:=yc (l:=c0) (a:=4) (i:=q.i) (by omega) (fun i=>wd key (4*i))
     by_cases h4:q.i<8
     ·refine za ?_
      refine ⟨⟨q.i+1,h4⟩,[0,1],by show (8)-(q.i+1)<(8)-q.i;omega,?_⟩
      repeat ((conv=>whnf);refine zb ?_)
      conv=>whnf
      refine zq (congrArg (fun x=>SV.agg [SV.arr32 16 x]) (z8 (by omega) ?hv ?hkk)) ?_
      case hkk=>show ((4:Int)+(q.i:Int)).toNat=4+q.i;omega
      case hv=>
        show wd (List.drop (4*(q.i:Int)).toNat key) 0=_
        rw [show (4*(q.i:Int)).toNat=4*q.i by omega,zyl]
      exact zt
     ·have e4:q.i=8:=by omega
      rw [e4] at hlo
      rw [e4]
      have hl2:((ovr c0 4 (fun i=>wd key (4*i)) 8).set 12 n).length=16:=by rw [List.length_set,hlo];rfl
      refine za ?_
      refine zp (Ix (3)) (fun r=>⟨[(0,.str key),(1,.str nonce),(2,.u32 n),(6,.ptr 0 0 0 []),(7,.ptr 1 0 0 []),(25,.int r.i)],[.mk 188 [.arr32 16 (List.replicate 16 0)],.mk 188 [.arr32 16 (ovr ((ovr c0 4 (fun i=>wd key (4*i)) 8).set 12 n) 13 (fun i=>wd nonce (4*i)) r.i)]]⟩) (fun r=>(3)-r.i) ⟨0,Nat.zero_le _⟩ [0,1] ?_ ?_
      ·exact zt
      ·intro r
       have hri:=r.hi
       have hlr:=yc (l:=(ovr c0 4 (fun i=>wd key (4*i)) 8).set 12 n) (a:=13) (i:=r.i) (by omega) (fun i=>wd nonce (4*i))
       by_cases h5:r.i<3
       ·refine za ?_
        refine ⟨⟨r.i+1,h5⟩,[0,1],by show (3)-(r.i+1)<(3)-r.i;omega,?_⟩
        repeat ((conv=>whnf);refine zb ?_)
        conv=>whnf
        refine zq (congrArg (fun x=>SV.agg [SV.arr32 16 x]) (z8 (by omega) ?hv ?hkk)) ?_
        case hkk=>show ((13:Int)+(r.i:Int)).toNat=13+r.i;omega
        case hv=>
          show wd (List.drop (4*(r.i:Int)).toNat nonce) 0=_
          rw [show (4*(r.i:Int)).toNat=4*r.i by omega,zyl]
        exact zt
       ·have e5:r.i=3:=by omega
        rw [e5,z3d]
        refine za ?_
        exact ze [] h
   ·exact h.elim
def zxe:Spec:=fun args hp K=>match args,hp with
  | [.arr32 16 x],[]=>Pre (x.length=16) (K (.arr8 64 (zod x)) [])
  |_,_=>False
theorem zzh:zm prog 138 zxe:=by
  refine zk zai (zc zz7 zg) rfl func138 rfl call138 (D:=yf1) ?_ ?_
  ·intro args hp K h
   unfold zxe at h
   split at h
   ·exact Nat.le_of_ble_eq_true rfl
   ·exact h.elim
  ·intro args hp K h
   unfold zxe at h
   split at h
   ·rename_i x
    obtain ⟨hx,h⟩:=zl h
    refine za ?_
    refine zp (Ix (10)) (fun q=>⟨[(0,.arr32 16 x),(1,.ptr 0 0 0 []),(2,.ptr 1 0 0 []),(3,.ptr 2 0 0 []),(9,.int q.i)],[.mk 188 [.arr32 16 x],.mk 187 [.arr8 64 (List.replicate 64 0)],.mk 188 [.arr32 16 (zif x q.i)]]⟩) (fun q=>(10)-q.i) ⟨0,Nat.zero_le _⟩ [0,1,2] ?_ ?_
    ·exact zt
    ·intro q
     have hi:=q.hi
     have hX:=zni x q.i
     by_cases h4:q.i<10
     ·refine za ?_
      generalize hXe:zif x q.i=X at*
      refine zp (Ix (4)) (fun r=>⟨[(0,.arr32 16 x),(1,.ptr 0 0 0 []),(2,.ptr 1 0 0 []),(3,.ptr 2 0 0 []),(9,.int q.i),(11,.int r.i)],[.mk 188 [.arr32 16 x],.mk 187 [.arr8 64 (List.replicate 64 0)],.mk 188 [.arr32 16 (zij X r.i)]]⟩) (fun r=>(4)-r.i) ⟨0,Nat.zero_le _⟩ [0,1,2] ?_ ?_
      ·exact zt
      ·intro r
       have hri:=r.hi
       have hc:=zhv X r.i
       by_cases h5:r.i<4
       ·have e0:((r.i:Int)).toNat=r.i:=Int.toNat_natCast _
        have e1:((4:Int)+(r.i:Int)).toNat=4+r.i:=by omega
        have e2:((8:Int)+(r.i:Int)).toNat=8+r.i:=by omega
        have e3:((12:Int)+(r.i:Int)).toNat=12+r.i:=by omega
        have hp5:(zij X r.i).length=16∧(0≤(r.i:Int)∧(r.i:Int)<16)∧(0≤(4:Int)+(r.i:Int)∧(4:Int)+(r.i:Int)<16)∧(0≤(8:Int)+(r.i:Int)∧(8:Int)+(r.i:Int)<16)∧(0≤(12:Int)+(r.i:Int)∧(12:Int)+(r.i:Int)<16):=⟨by omega,by omega,by omega,by omega,by omega⟩
        refine za ?_
        rw [e0,e1,e2,e3]
        conv=>whnf
        refine ⟨⟨r.i+1,h5⟩,[0,1,2],by show (4)-(r.i+1)<(4)-r.i;omega,?_⟩
        exact zt
       ·have e5:r.i=4:=by omega
        rw [e5] at hc
        rw [e5]
        generalize hYe:zij X 4=Y at*
        refine za ?_
        refine zp (Ix (4)) (fun u=>⟨[(0,.arr32 16 x),(1,.ptr 0 0 0 []),(2,.ptr 1 0 0 []),(3,.ptr 2 0 0 []),(9,.int q.i),(23,.int u.i)],[.mk 188 [.arr32 16 x],.mk 187 [.arr8 64 (List.replicate 64 0)],.mk 188 [.arr32 16 (zik Y u.i)]]⟩) (fun u=>(4)-u.i) ⟨0,Nat.zero_le _⟩ [0,1,2] ?_ ?_
        ·exact zt
        ·intro u
         have hui:=u.hi
         have hd:=zh4 Y u.i
         by_cases h6:u.i<4
         ·have e0:((u.i:Int)).toNat=u.i:=Int.toNat_natCast _
          have e1:((4:Int)+((u.i:Int)+1).tmod 4).toNat=4+(u.i+1)%4:=by rw [Int.tmod_eq_emod_of_nonneg (by omega)];omega
          have e2:((8:Int)+((u.i:Int)+2).tmod 4).toNat=8+(u.i+2)%4:=by rw [Int.tmod_eq_emod_of_nonneg (by omega)];omega
          have e3:((12:Int)+((u.i:Int)+3).tmod 4).toNat=12+(u.i+3)%4:=by rw [Int.tmod_eq_emod_of_nonneg (by omega)];omega
          have n1:=Int.tmod_nonneg (a:=(u.i:Int)+1) 4 (by omega)
          have n2:=Int.tmod_nonneg (a:=(u.i:Int)+2) 4 (by omega)
          have n3:=Int.tmod_nonneg (a:=(u.i:Int)+3) 4 (by omega)
          have hp5:(zik Y u.i).length=16∧(0≤(u.i:Int)∧(u.i:Int)<16)∧(0≤(4:Int)+((u.i:Int)+1).tmod 4∧(4:Int)+((u.i:Int)+1).tmod 4<16)∧(0≤(8:Int)+((u.i:Int)+2).tmod 4∧(8:Int)+((u.i:Int)+2).tmod 4<16)∧(0≤(12:Int)+((u.i:Int)+3).tmod 4∧(12:Int)+((u.i:Int)+3).tmod 4<16):=⟨by omega,by omega,by omega,by omega,by omega⟩
          refine za ?_
          rw [e0,e1,e2,e3]
          conv=>whnf
          refine ⟨⟨u.i+1,h6⟩,[0,1,2],by show (4)-(u.i+1)<(4)-u.i;omega,?_⟩
          exact zt
         ·have e6:u.i=4:=by omega
          rw [e6,show zik Y 4=zif x (q.i+1) by rw [←hYe,←hXe];rfl]
          refine za ?_
          refine ⟨⟨q.i+1,h4⟩,[0,1,2],by show (10)-(q.i+1)<(10)-q.i;omega,?_⟩
          exact zt
     ·have e4:q.i=10:=by omega
      rw [e4] at hX
      rw [e4]
      refine za ?_
      refine zp (Ix (64)) (fun u=>⟨[(0,.arr32 16 x),(1,.ptr 0 0 0 []),(2,.ptr 1 0 0 []),(3,.ptr 2 0 0 []),(6,.ptr 3 0 0 []),(42,.int u.i)],[.mk 188 [.arr32 16 x],.mk 187 [.arr8 64 (List.replicate 64 0)],.mk 188 [.arr32 16 (zif x 10)],.mk 187 [.arr8 64 (ovr (List.replicate 64 0) 0 (outG x) u.i)]]⟩) (fun u=>(64)-u.i) ⟨0,Nat.zero_le _⟩ [0,1,2,3] ?_ ?_
      ·exact zt
      ·intro u
       have hui:=u.hi
       have hd4:(u.i:Int).tdiv 4=((u.i/ 4:Nat):Int):=by rw [Int.tdiv_eq_ediv_of_nonneg (by omega)];omega
       have hm4:(u.i:Int).tmod 4=((u.i%4:Nat):Int):=by rw [Int.tmod_eq_emod_of_nonneg (by omega)];omega
       have hpd:(4:Int)≠0∧yb ((u.i:Int).tdiv 4):=⟨by decide,by unfold yb;omega⟩
       have hlo:=yc (l:=List.replicate 64 (0:UInt8)) (a:=0) (i:=u.i) (by rw [List.length_replicate];omega) (outG x)
       rw [List.length_replicate] at hlo
       by_cases h6:u.i<64
       ·refine za ?_
        refine ⟨⟨u.i+1,h6⟩,[0,1,2,3],by show (64)-(u.i+1)<(64)-u.i;omega,?_⟩
        repeat ((conv=>whnf);refine zb ?_)
        conv=>whnf
        refine zq (congrArg (fun x=>SV.agg [SV.arr8 64 x]) (z8 (by rw [List.length_replicate];omega) ?hv ?hkk)) ?_
        case hkk=>show ((u.i:Int)).toNat=0+u.i;omega
        case hv=>
          show ((g32 x ((u.i:Int).tdiv 4).toNat+g32 (zif x 10) ((u.i:Int).tdiv 4).toNat)>>>UInt32.ofNat (8*(u.i:Int).tmod 4).toNat).toUInt8=_
          rw [hd4,hm4,Int.toNat_natCast,show (8*((u.i%4:Nat):Int)).toNat=8*(u.i%4) by omega];rfl
        exact zt
       ·have e6:u.i=64:=by omega
        rw [e6,yy (List.length_replicate)]
        refine za ?_
        exact ze [] h
   ·exact h.elim
end Go.Sym.Z
