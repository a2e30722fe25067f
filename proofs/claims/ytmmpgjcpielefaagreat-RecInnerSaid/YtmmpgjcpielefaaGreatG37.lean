/-
  Contracts of functions of the program, each said of symbolic values, and plain laws; no condition beyond each statement's own.
-/
import Derived.Test.YtmmpgjcpielefaaGreatG25
import Derived.Test.YtmmpgjcpielefaaGreatG32
import Derived.Test.YtmmpgjcpielefaaGreatG36
set_option linter.unusedSimpArgs false
set_option linter.unusedVariables false
namespace Go.Sym.Z
open Go Go.Proofs.Tryz Go.Sym.Lp Go.Sym.Cha Go.Sym.Sha Go.Sym.Hk Go.Sym.Gcm
set_option maxRecDepth 100000
def yf0:List (Nat×List PStep):= []
def yfp:List (Nat×List PStep):= []
def yhj:List (Nat×List PStep):= []
def yij:List (Nat×List PStep):= []
def yg7:List (Nat×List PStep):= []
def yhr:List (Nat×List PStep):= []
def yh7:List (Nat×TyI):= [(3,ty3),(4,ty4),(5,ty5),(9,ty9),(48,zd3),(51,zd6),(113,xu),(99,xm),(76,zn9)]
theorem zh8: ∀t i,y9 yh7 t=some i→yx prog t i:=(zd zda (zd zc8 (zd zc9 (zd zdf (zd zbq (zd zbr (zd zbh (zd zcx (zd z8z zau)))))))))
attribute [local irreducible] zoe xv
set_option maxHeartbeats 4000000 in
theorem z0x:zm prog 100 zh1:=by
  refine zk zh8 (zc ycm (zc yft zg)) rfl func100 rfl call100 (D:=yf0) ?_ ?_
  ·intro args hp K h
   unfold zh1 at h
   split at h
   ·exact Nat.le_of_ble_eq_true rfl
   ·exact h.elim
  ·intro args hp K h
   unfold zh1 at h
   split at h
   ·rename_i n key info size
    obtain ⟨⟨hn,hk,hi,hs0,hs⟩,h⟩:=zl h
    obtain ⟨z,rfl⟩:=Int.eq_ofNat_of_zero_le hs0
    rw [Int.toNat_natCast] at h
    have hd:=decide_eq_true hn
    have h8:(8:Int)≠0∧yb ((255*n).tdiv 8):=by rcases hn with rfl|rfl<;>exact ⟨by decide,by unfold yb;decide⟩
    have hmx:8160≤(255*n).tdiv 8:=by rcases hn with rfl|rfl<;>decide
    have hfit:yb (255*n):=by rcases hn with rfl|rfl<;>(unfold yb;decide)
    repeat ((conv=>whnf);first|refine zu ?_|refine zi ?_|refine zj ?_|refine zb ?_|refine zw (by first|(rw [hd];rfl)) ?_|refine zo (by first|(rw [hd];rfl)) ?_|refine zn (by first|(rw [hd];rfl)) ?_)
    conv=>whnf
    obtain ⟨d,hdl,hd0⟩: ∃d,dl n=d∧(d=32∨d=48):=⟨_,rfl,by unfold dl;split<;>simp⟩
    have hF:exF n key info z=(xv n key info ((z+d-1)/ d)).1.take z:=by unfold exF;rw [hdl]
    rw [hF] at h
    have hN: ∀i,i<(z+d-1)/ d↔d*i<z:=by
      intro i;rcases hd0 with rfl|rfl<;>omega
    have hN2:z≤d*((z+d-1)/ d):=by rcases hd0 with rfl|rfl<;>omega
    obtain ⟨N,hNN⟩: ∃N,N=(z+d-1)/ d:=⟨_,rfl⟩
    rw [←hNN] at h hN hN2
    have hdd:d≤48:=by omega
    have hNb:N≤1000:=by rw [hNN];rcases hd0 with rfl|rfl<;>omega
    clear hd0 hF hNN
    refine zp (Ix (N)) (fun q=>⟨[(0,.int n),(1,.str key),(2,.str info),(3,.int z),(10,.str (xv n key info q.i).1),(11,.str (xv n key info q.i).2),(12,.int ((q.i:Int)+1))],[]⟩) (fun q=>(N)-q.i) ⟨0,Nat.zero_le _⟩ [] ?_ ?_
    ·repeat ((conv=>whnf);refine zb ?_)
     conv=>whnf
     refine zq (congrArg (fun x:List UInt8×List UInt8=>SV.str x.1) (show (([],[]):List UInt8×List UInt8)=xv n key info 0 by unfold xv;rfl)) ?_
     repeat ((conv=>whnf);refine zb ?_)
     conv=>whnf
     exact zh (congrArg (fun x:List UInt8×List UInt8=>SV.str x.2) (show (([],[]):List UInt8×List UInt8)=xv n key info 0 by unfold xv;rfl))
    ·intro q
     have hqi:=q.hi
     obtain ⟨hel,hel2⟩:=zj9 hn key info q.i
     rw [hdl] at hel
     have hdq:d*q.i≤48*1000:=Nat.mul_le_mul hdd (by omega)
     by_cases h4:q.i<N
     ·have hlt:=(hN q.i).1 h4
      have hml:=ztw hn key ((xv n key info q.i).2++info++List.take 1 (List.drop (off []) ((List.replicate 1 0).set (off [(0,ty5.sz)]) (UInt8.ofInt ((q.i:Int)+1)))))
      have hXl:((xv n key info q.i).2++info++List.take 1 (List.drop (off []) ((List.replicate 1 0).set (off [(0,ty5.sz)]) (UInt8.ofInt ((q.i:Int)+1))))).length≤140737488351232:=by rw [zgd,List.length_append,List.length_append];show _+_+1≤_;omega
      have hpm:(n=256∨n=384)∧key.length≤140737488351232∧((xv n key info q.i).2++info++List.take 1 (List.drop (off []) ((List.replicate 1 0).set (off [(0,ty5.sz)]) (UInt8.ofInt ((q.i:Int)+1))))).length≤140737488351232:=⟨hn,hk,hXl⟩
      rw [hdl] at hml
      have hE1:(xv n key info q.i).1++zoe n key ((xv n key info q.i).2++info++List.take 1 (List.drop (off []) ((List.replicate 1 0).set (off [(0,ty5.sz)]) (UInt8.ofInt ((q.i:Int)+1)))))=(xv n key info (q.i+1)).1:=by simp only [xv];rw [zgd]
      have hE2:zoe n key ((xv n key info q.i).2++info++List.take 1 (List.drop (off []) ((List.replicate 1 0).set (off [(0,ty5.sz)]) (UInt8.ofInt ((q.i:Int)+1)))))=(xv n key info (q.i+1)).2:=by simp only [xv];rw [zgd]
      refine za ?_
      conv=>whnf
      refine ⟨⟨q.i+1,h4⟩,[],by show (N)-(q.i+1)<(N)-q.i;omega,?_⟩
      repeat ((conv=>whnf);refine zb ?_)
      conv=>whnf
      refine zq (congrArg SV.str hE1) ?_
      repeat ((conv=>whnf);refine zb ?_)
      conv=>whnf
      exact zh (congrArg SV.str hE2)
     ·have e4:q.i=N:=by omega
      have hge: ¬d*q.i<z:=fun hh=>h4 ((hN q.i).2 hh)
      rw [←e4] at h
      refine za ?_
      exact ze [] h
   ·exact h.elim
theorem yil (x:Int):beB x (Int.toNat 1)= [UInt8.ofInt x]:=by
  show [UInt8.ofInt (x/ 2^0)]=_;rw [Int.pow_zero,Int.ediv_one]
theorem yiw (x:Int):beB x (Int.toNat 2)= [UInt8.ofInt (x/ 2^8),UInt8.ofInt x]:=by
  show [UInt8.ofInt (x/ 2^8),UInt8.ofInt (x/ 2^0)]=_;rw [Int.pow_zero,Int.ediv_one]
def vS:Spec:=fun args hp K=>match args,hp with
  | [.str s,.int k],[]=>Pre (k=1∧s.length≤255) (K (.str (UInt8.ofInt (s.length:Int) ::s)) [])
  |_,_=>False
theorem v_s:zm prog 101 vS:=by
  refine zk zh8 (zc z0z zg) rfl func101 rfl call101 (D:=yfp) ?_ ?_
  ·intro args hp K h
   unfold vS at h
   split at h
   ·exact Nat.le_of_ble_eq_true rfl
   ·exact h.elim
  ·intro args hp K h
   unfold vS at h
   split at h
   ·rename_i s k
    obtain ⟨⟨hk1,hs⟩,hK⟩:=zl h
    clear h
    subst hk1
    have h:=hK
    have hl:=zat (s.length:Int) (Int.toNat 1)
    refine za ?_
    rw [yil]
    conv=>whnf
    exact ze [] h
   ·exact h.elim
attribute [local irreducible] exF
theorem z7d:zm prog 73 zkp:=by
  refine zk zh8 (zc z0z (zc v_s (zc z0x zg))) rfl func73 rfl call73 (D:=yhj) ?_ ?_
  ·intro args hp K h
   unfold zkp at h
   split at h
   ·exact Nat.le_of_ble_eq_true rfl
   ·exact h.elim
  ·intro args hp K h
   unfold zkp at h
   split at h
   ·rename_i n key label ctx size
    obtain ⟨⟨hn,hk,hl,hc,hs0,hs⟩,h⟩:=zl h
    obtain ⟨z,rfl⟩:=Int.eq_ofNat_of_zero_le hs0
    rw [Int.toNat_natCast] at h
    have hIl:([UInt8.ofInt ((z:Int)/ 2^8),UInt8.ofInt (z:Int)]++(UInt8.ofInt ((([116,108,115,49,51,32]++label:List UInt8).length:Nat):Int) ::([116,108,115,49,51,32]++label))++(UInt8.ofInt (ctx.length:Int) ::ctx)).length≤1000:=by simp only [List.length_append,List.length_cons,List.length_nil];omega
    have hpx:(n=256∨n=384)∧key.length≤140737488351232∧([UInt8.ofInt ((z:Int)/ 2^8),UInt8.ofInt (z:Int)]++(UInt8.ofInt ((([116,108,115,49,51,32]++label:List UInt8).length:Nat):Int) ::([116,108,115,49,51,32]++label))++(UInt8.ofInt (ctx.length:Int) ::ctx)).length≤1000∧0≤(z:Int)∧(z:Int)≤1000:=⟨hn,hk,hIl,hs0,hs⟩
    unfold zaq at h
    have hll:(([116,108,115,49,51,32]++label:List UInt8)).length≤255:=by simp only [List.length_append,List.length_cons,List.length_nil];omega
    refine za ?_
    rw [yiw]
    refine za ?_
    conv=>whnf
    exact ze [] h
   ·exact h.elim
theorem z79:zm prog 72 zqu:=by
  refine zk zh8 (zc znp zg) rfl func72 rfl call72 (D:=yij) ?_ ?_
  ·intro args hp K h
   unfold zqu at h
   split at h
   ·exact Nat.le_of_ble_eq_true rfl
   ·exact h.elim
  ·intro args hp K h
   unfold zqu at h
   split at h
   ·rename_i w
    obtain ⟨ht,hf⟩:=zy h
    have four:w=4865∨w=4866∨w=4867∨(w≠4865∧w≠4866∧w≠4867):=by omega
    rcases four with h0|h0|h0|⟨h0,h1,h2⟩
    ·have h:=ht (decide_eq_true (.inl h0))
     rw [show hB w=256 by unfold hB;rw [if_neg (by omega)]] at h
     refine za ?_
     exact ze [] h
    ·have h:=ht (decide_eq_true (.inr (.inl h0)))
     rw [show hB w=384 by unfold hB;rw [if_pos h0]] at h
     refine za ?_
     exact ze [] h
    ·have h:=ht (decide_eq_true (.inr (.inr h0)))
     rw [show hB w=256 by unfold hB;rw [if_neg (by omega)]] at h
     refine za ?_
     exact ze [] h
    ·have h:=hf (decide_eq_false (by unfold su;omega))
     refine za ?_
     exact ze [] h
   ·exact h.elim
attribute [local irreducible] zaq
theorem z0e:zm prog 54 zhx:=by
  refine zk zh8 (zc z79 (zc z7d zg)) rfl func54 rfl call54 (D:=yg7) ?_ ?_
  ·intro args hp K h
   unfold zhx at h
   split at h
   ·exact Nat.le_of_ble_eq_true rfl
   ·exact h.elim
  ·intro args hp K h
   unfold zhx at h
   split at h
   ·rename_i w key label ctx size
    obtain ⟨⟨hk,hl,hc,hs0,hs⟩,h⟩:=zl h
    obtain ⟨ht,hf⟩:=zy h
    have hp:(hB w=256∨hB w=384)∧key.length≤140737488351232∧label.length≤100∧ctx.length≤255∧0≤size∧size≤1000:=⟨zx9 w,hk,hl,hc,hs0,hs⟩
    generalize e:decide (su w)=c at ht hf
    cases c
    ·have h:=hf rfl
     refine za ?_
     exact ze [] h
    ·have h:=ht rfl
     refine za ?_
     exact ze [] h
   ·exact h.elim
theorem z77:zm prog 26 znb:=by
  refine zk zh8 (zc znp (zc z0e zg)) rfl func26 rfl call26 (D:=yhr) ?_ ?_
  ·intro args hp K h
   unfold znb at h
   split at h
   ·exact Nat.le_of_ble_eq_true rfl
   ·exact h.elim
  ·intro args hp K h
   unfold znb at h
   split at h
   ·rename_i w s
    obtain ⟨hs,h⟩:=zl h
    obtain ⟨ht,hf⟩:=zy h
    have four:w=4865∨w=4866∨w=4867∨(w≠4865∧w≠4866∧w≠4867):=by omega
    rcases four with h0|h0|h0|⟨h0,h1,h2⟩
    ·have hd:decide (su w)=true:=decide_eq_true (.inl h0)
     have h:=ht hd
     rw [show kyF w s=zaq (hB w) s [107,101,121] [] (Int.toNat 16) by unfold kyF aSz;rw [if_pos h0];rfl,show ivF w s=zaq (hB w) s [105,118] [] (Int.toNat 12) by unfold ivF;rfl] at h
     refine za ?_
     exact ze [] h
    ·have hd:decide (su w)=true:=decide_eq_true (.inr (.inl h0))
     have h:=ht hd
     rw [show kyF w s=zaq (hB w) s [107,101,121] [] (Int.toNat 32) by unfold kyF aSz;rw [if_neg (by omega)];rfl,show ivF w s=zaq (hB w) s [105,118] [] (Int.toNat 12) by unfold ivF;rfl] at h
     refine za ?_
     exact ze [] h
    ·have hd:decide (su w)=true:=decide_eq_true (.inr (.inr h0))
     have h:=ht hd
     rw [show kyF w s=zaq (hB w) s [107,101,121] [] (Int.toNat 32) by unfold kyF aSz;rw [if_neg (by omega)];rfl,show ivF w s=zaq (hB w) s [105,118] [] (Int.toNat 12) by unfold ivF;rfl] at h
     refine za ?_
     exact ze [] h
    ·have hd:decide (su w)=false:=decide_eq_false (by unfold su;omega)
     have h:=hf hd
     refine za ?_
     exact ze [] h
   ·exact h.elim
attribute [local irreducible] kyF ivF
end Go.Sym.Z

namespace Go.Sym.Z
open Go Go.Proofs.Tryz Go.Sym.Lp Go.Sym.Cha Go.Sym.Sha Go.Sym.Hk
set_option maxRecDepth 100000
attribute [local irreducible] zaq exF kyF ivF
def yhk:List (Nat×List PStep):= [(3,[⟨0,[]⟩,⟨1,[0]⟩,⟨2,[0]⟩,⟨3,[0]⟩,⟨4,[0]⟩,⟨5,[]⟩,⟨6,[]⟩,⟨7,[0,1,2,3,4,5,6]⟩,⟨8,[0,1,2,3,4,5,6]⟩,⟨9,[0,1,2,3,4,5,6]⟩,⟨10,[0,1,2,3,4,5,6]⟩,⟨11,[]⟩,⟨12,[0,1,2,3,4,5,6,7,8,9,10,11]⟩,⟨13,[0,1,2,3,4,5,6,7,8,9,10,11]⟩,⟨14,[0,1,2,3,4,5,6,7,8,9,10,11]⟩,⟨15,[0,1,2,3,4,5,6,7,8,9,10,11]⟩,⟨16,[]⟩,⟨17,[]⟩,⟨18,[]⟩])]
def yiu:List (Nat×List PStep):= [(1,[⟨0,[]⟩,⟨1,[]⟩,⟨2,[]⟩,⟨3,[]⟩,⟨6,[0,1,2,3]⟩,⟨4,[0,1,2,3,6]⟩,⟨5,[6]⟩,⟨7,[0,1,2,3,5]⟩,⟨8,[]⟩,⟨9,[]⟩])]
def yhz:List (Nat×List PStep):= []
def yip:List (Nat×List PStep):= []
def yhs:List (Nat×List PStep):= []
def yhi:List (Nat×List PStep):= []
def yhx:List (Nat×List PStep):= []
def yhw:List (Nat×List PStep):= []
def yiv:List (Nat×List PStep):= []
def yiq:List (Nat×List PStep):= []
def hdF (kind n:Int):List UInt8:= [UInt8.ofInt kind,3,3,UInt8.ofInt (n/ 2^8),UInt8.ofInt n]
def zvx:Spec:=fun args hp K=>match args,hp with
  | [.int kind,.int n],[]=>K (.str (hdF kind n)) []
  |_,_=>False
theorem z9x:zm prog 64 zvx:=by
  refine zk y3 (zc zn1 zg) rfl func64 rfl call64 (D:=yiu) ?_ ?_
  ·intro args hp K h
   unfold zvx at h
   split at h
   ·exact Nat.le_of_ble_eq_true rfl
   ·exact h.elim
  ·intro args hp K h
   unfold zvx at h
   split at h
   ·rename_i kind n
    refine za ?_
    rw [zgd,if_neg (by decide)]
    refine za ?_
    rw [if_neg (by decide)]
    refine za ?_
    conv=>whnf
    exact ze [] h
   ·exact h.elim
def zi5:Spec:=fun args hp K=>match args,hp with
  | [.int p],[]=>K (.tup [.agg [.int p,.nilptr],.bool (decide (0≤p∧p≤16384))]) []
  |_,_=>False
theorem zvl:zm prog 40 zi5:=by
  refine zk y3 zg rfl func40 rfl call40 (D:=yhz) ?_ ?_
  ·intro args hp K h
   unfold zi5 at h
   split at h
   ·exact Nat.le_of_ble_eq_true rfl
   ·exact h.elim
  ·intro args hp K h
   unfold zi5 at h
   split at h
   ·rename_i p
    by_cases h1:0≤p
    ·by_cases h2:p≤16384
     ·have d2:decide (p≤16384)=true:=decide_eq_true h2
      rw [decide_eq_true ⟨h1,h2⟩] at h
      refine za ?_
      rw [d2]
      conv=>whnf
      exact ze [] h
     ·have d2:decide (p≤16384)=false:=decide_eq_false h2
      rw [decide_eq_false fun hh=>h2 hh.2] at h
      refine za ?_
      rw [d2]
      conv=>whnf
      exact ze [] h
    ·rw [decide_eq_false fun hh=>h1 hh.1] at h
     refine za ?_
     exact ze [] h
   ·exact h.elim
def zys:Spec:=fun args hp K=>match args,hp with
  | [.int p],[]=>zx (decide (0≤p∧p≤16384)) (K (.tup [.ptr 0 0 0 [],.int 0]) [.mk 74 [.int p,.nilptr,.nilptr,.str [],.int (-1)]]) (K (.tup [.nilptr,.int 2100]) [])
  |_,_=>False
theorem z21:zm prog 10 zys:=by
  refine zk y3 (zc zvl zg) rfl func10 rfl call10 (D:=yip) ?_ ?_
  ·intro args hp K h
   unfold zys at h
   split at h
   ·exact Nat.le_of_ble_eq_true rfl
   ·exact h.elim
  ·intro args hp K h
   unfold zys at h
   split at h
   ·rename_i p
    obtain ⟨ht,hf⟩:=zy h
    generalize e:decide (0≤p∧p≤16384)=c at ht hf
    cases c
    ·have h:=hf rfl
     repeat ((conv=>whnf);first|refine zu ?_|refine zi ?_|refine zj ?_|refine zb ?_|refine zw (by first|exact e|(rw [e];rfl)) ?_|refine zo (by first|exact e|(rw [e];rfl)) ?_|refine zn (by first|exact e|(rw [e];rfl)) ?_)
     conv=>whnf
     exact ze [] h
    ·have h:=ht rfl
     repeat ((conv=>whnf);first|refine zu ?_|refine zi ?_|refine zj ?_|refine zb ?_|refine zw (by first|exact e|(rw [e];rfl)) ?_|refine zo (by first|exact e|(rw [e];rfl)) ?_|refine zn (by first|exact e|(rw [e];rfl)) ?_)
     conv=>whnf
     conv=>whnf
     exact ze [1] h
   ·exact h.elim
def zr4:Spec:=fun args hp K=>match args,hp with
  | [.ptr 0 0 0 [],.str s],[.mk t0 [.int p,.nilptr,.nilptr,.str held,.int f]]=>Pre (held.length+s.length<9223372036854775808) (K (.tup []) [.mk t0 [.int p,.nilptr,.nilptr,.str (held++s),.int f]])
  | [.ptr 0 0 0 [],.str s],[.mk t0 [.int p,.ptr 1 0 0 [],.nilptr,.str held,.int f],.mk tka [.int aw,.str akey,.str aiv,.int am]]=>Pre (held.length+s.length<9223372036854775808) (K (.tup []) [.mk t0 [.int p,.ptr 1 0 0 [],.nilptr,.str (held++s),.int f],.mk tka [.int aw,.str akey,.str aiv,.int am]])
  | [.ptr 0 0 0 [],.str s],[.mk t0 [.int p,.nilptr,.ptr 1 0 0 [],.str held,.int f],.mk tkb [.int bw,.str bkey,.str biv,.int bm]]=>Pre (held.length+s.length<9223372036854775808) (K (.tup []) [.mk t0 [.int p,.nilptr,.ptr 1 0 0 [],.str (held++s),.int f],.mk tkb [.int bw,.str bkey,.str biv,.int bm]])
  | [.ptr 0 0 0 [],.str s],[.mk t0 [.int p,.ptr 1 0 0 [],.ptr 2 0 0 [],.str held,.int f],.mk tka [.int aw,.str akey,.str aiv,.int am],.mk tkb [.int bw,.str bkey,.str biv,.int bm]]=>Pre (held.length+s.length<9223372036854775808) (K (.tup []) [.mk t0 [.int p,.ptr 1 0 0 [],.ptr 2 0 0 [],.str (held++s),.int f],.mk tka [.int aw,.str akey,.str aiv,.int am],.mk tkb [.int bw,.str bkey,.str biv,.int bm]])
  |_,_=>False
set_option maxHeartbeats 4000000 in
theorem zzz:zm prog 14 zr4:=by
  refine zk y3 zg rfl func14 rfl call14 (D:=yhs) ?_ ?_
  ·intro args hp K h
   unfold zr4 at h
   split at h
   ·exact Nat.le_of_ble_eq_true rfl
   ·exact Nat.le_of_ble_eq_true rfl
   ·exact Nat.le_of_ble_eq_true rfl
   ·exact Nat.le_of_ble_eq_true rfl
   ·exact h.elim
  ·intro args hp K h
   unfold zr4 at h
   split at h
   ·rename_i s t0 p held f
    obtain ⟨hl,h⟩:=zl h
    refine za ?_
    exact ze [0] h
   ·rename_i s t0 p held f tka aw akey aiv am
    obtain ⟨hl,h⟩:=zl h
    refine za ?_
    exact ze [0,1] h
   ·rename_i s t0 p held f tkb bw bkey biv bm
    obtain ⟨hl,h⟩:=zl h
    refine za ?_
    exact ze [0,1] h
   ·rename_i s t0 p held f tka aw akey aiv am tkb bw bkey biv bm
    obtain ⟨hl,h⟩:=zl h
    refine za ?_
    exact ze [0,1,2] h
   ·exact h.elim
def zwo:Spec:=fun args hp K=>match args,hp with
  | [.ptr 0 0 0 []],[.mk t0 [.int p,.nilptr,.nilptr,.str held,.int f]]=>K (.int 0) [.mk t0 [.int p,.nilptr,.nilptr,.str held,.int f]]
  | [.ptr 0 0 0 []],[.mk t0 [.int p,.ptr 1 0 0 [],.nilptr,.str held,.int f],.mk tka [.int aw,.str akey,.str aiv,.int am]]=>K (.int am) [.mk t0 [.int p,.ptr 1 0 0 [],.nilptr,.str held,.int f],.mk tka [.int aw,.str akey,.str aiv,.int am]]
  | [.ptr 0 0 0 []],[.mk t0 [.int p,.nilptr,.ptr 1 0 0 [],.str held,.int f],.mk tkb [.int bw,.str bkey,.str biv,.int bm]]=>K (.int 0) [.mk t0 [.int p,.nilptr,.ptr 1 0 0 [],.str held,.int f],.mk tkb [.int bw,.str bkey,.str biv,.int bm]]
  | [.ptr 0 0 0 []],[.mk t0 [.int p,.ptr 1 0 0 [],.ptr 2 0 0 [],.str held,.int f],.mk tka [.int aw,.str akey,.str aiv,.int am],.mk tkb [.int bw,.str bkey,.str biv,.int bm]]=>K (.int am) [.mk t0 [.int p,.ptr 1 0 0 [],.ptr 2 0 0 [],.str held,.int f],.mk tka [.int aw,.str akey,.str aiv,.int am],.mk tkb [.int bw,.str bkey,.str biv,.int bm]]
  |_,_=>False
set_option maxHeartbeats 4000000 in
theorem z9s:zm prog 52 zwo:=by
  refine zk y3 zg rfl func52 rfl call52 (D:=yiv) ?_ ?_
  ·intro args hp K h
   unfold zwo at h
   split at h
   ·exact Nat.le_of_ble_eq_true rfl
   ·exact Nat.le_of_ble_eq_true rfl
   ·exact Nat.le_of_ble_eq_true rfl
   ·exact Nat.le_of_ble_eq_true rfl
   ·exact h.elim
  ·intro args hp K h
   unfold zwo at h
   split at h
   ·rename_i t0 p held f
    refine za ?_
    exact ze [0] h
   ·rename_i t0 p held f tka aw akey aiv am
    refine za ?_
    exact ze [0,1] h
   ·rename_i t0 p held f tkb bw bkey biv bm
    refine za ?_
    exact ze [0,1] h
   ·rename_i t0 p held f tka aw akey aiv am tkb bw bkey biv bm
    refine za ?_
    exact ze [0,1,2] h
   ·exact h.elim
def zwe:Spec:=fun args hp K=>match args,hp with
  | [.ptr 0 0 0 []],[.mk t0 [.int p,.nilptr,.nilptr,.str held,.int f]]=>K (.int 0) [.mk t0 [.int p,.nilptr,.nilptr,.str held,.int f]]
  | [.ptr 0 0 0 []],[.mk t0 [.int p,.ptr 1 0 0 [],.nilptr,.str held,.int f],.mk tka [.int aw,.str akey,.str aiv,.int am]]=>K (.int am) [.mk t0 [.int p,.ptr 1 0 0 [],.nilptr,.str held,.int f],.mk tka [.int aw,.str akey,.str aiv,.int am]]
  | [.ptr 0 0 0 []],[.mk t0 [.int p,.nilptr,.ptr 1 0 0 [],.str held,.int f],.mk tkb [.int bw,.str bkey,.str biv,.int bm]]=>K (.int 0) [.mk t0 [.int p,.nilptr,.ptr 1 0 0 [],.str held,.int f],.mk tkb [.int bw,.str bkey,.str biv,.int bm]]
  | [.ptr 0 0 0 []],[.mk t0 [.int p,.ptr 1 0 0 [],.ptr 2 0 0 [],.str held,.int f],.mk tka [.int aw,.str akey,.str aiv,.int am],.mk tkb [.int bw,.str bkey,.str biv,.int bm]]=>K (.int am) [.mk t0 [.int p,.ptr 1 0 0 [],.ptr 2 0 0 [],.str held,.int f],.mk tka [.int aw,.str akey,.str aiv,.int am],.mk tkb [.int bw,.str bkey,.str biv,.int bm]]
  |_,_=>False
set_option maxHeartbeats 4000000 in
theorem z76:zm prog 24 zwe:=by
  refine zk y3 (zc z9s zg) rfl func24 rfl call24 (D:=yiq) ?_ ?_
  ·intro args hp K h
   unfold zwe at h
   split at h
   ·exact Nat.le_of_ble_eq_true rfl
   ·exact Nat.le_of_ble_eq_true rfl
   ·exact Nat.le_of_ble_eq_true rfl
   ·exact Nat.le_of_ble_eq_true rfl
   ·exact h.elim
  ·intro args hp K h
   unfold zwe at h
   split at h
   ·rename_i t0 p held f
    refine za ?_
    exact ze [0] h
   ·rename_i t0 p held f tka aw akey aiv am
    refine za ?_
    exact ze [0,1] h
   ·rename_i t0 p held f tkb bw bkey biv bm
    refine za ?_
    exact ze [0,1] h
   ·rename_i t0 p held f tka aw akey aiv am tkb bw bkey biv bm
    refine za ?_
    exact ze [0,1,2] h
   ·exact h.elim
def zl5:Spec:=fun args hp K=>match args,hp with
  | [.ptr 0 0 0 [],.int w,.str s],[.mk t0 [.int p,.nilptr,.nilptr,.str held,.int f]]=>Pre (s.length≤140737488351232) (zx (decide (su w)) (K (.int 0) [.mk t0 [.int p,.nilptr,.ptr 1 0 0 [],.str held,.int f],.mk 103 [.int w,.str (kyF w s),.str (ivF w s),.int 0]]) (K (.int 2100) [.mk t0 [.int p,.nilptr,.nilptr,.str held,.int f]]))
  | [.ptr 0 0 0 [],.int w,.str s],[.mk t0 [.int p,.ptr 1 0 0 [],.nilptr,.str held,.int f],.mk tka [.int aw,.str akey,.str aiv,.int am]]=>Pre (s.length≤140737488351232) (zx (decide (su w)) (K (.int 0) [.mk t0 [.int p,.ptr 1 0 0 [],.ptr 2 0 0 [],.str held,.int f],.mk tka [.int aw,.str akey,.str aiv,.int am],.mk 103 [.int w,.str (kyF w s),.str (ivF w s),.int 0]]) (K (.int 2100) [.mk t0 [.int p,.ptr 1 0 0 [],.nilptr,.str held,.int f],.mk tka [.int aw,.str akey,.str aiv,.int am]]))
  | [.ptr 0 0 0 [],.int w,.str s],[.mk t0 [.int p,.nilptr,.ptr 1 0 0 [],.str held,.int f],.mk tkb [.int bw,.str bkey,.str biv,.int bm]]=>Pre (s.length≤140737488351232) (zx (decide (su w)) (K (.int 0) [.mk t0 [.int p,.nilptr,.ptr 2 0 0 [],.str held,.int f],.mk tkb [.int bw,.str bkey,.str biv,.int bm],.mk 103 [.int w,.str (kyF w s),.str (ivF w s),.int 0]]) (K (.int 2100) [.mk t0 [.int p,.nilptr,.ptr 1 0 0 [],.str held,.int f],.mk tkb [.int bw,.str bkey,.str biv,.int bm]]))
  | [.ptr 0 0 0 [],.int w,.str s],[.mk t0 [.int p,.ptr 1 0 0 [],.ptr 2 0 0 [],.str held,.int f],.mk tka [.int aw,.str akey,.str aiv,.int am],.mk tkb [.int bw,.str bkey,.str biv,.int bm]]=>Pre (s.length≤140737488351232) (zx (decide (su w)) (K (.int 0) [.mk t0 [.int p,.ptr 1 0 0 [],.ptr 3 0 0 [],.str held,.int f],.mk tka [.int aw,.str akey,.str aiv,.int am],.mk tkb [.int bw,.str bkey,.str biv,.int bm],.mk 103 [.int w,.str (kyF w s),.str (ivF w s),.int 0]]) (K (.int 2100) [.mk t0 [.int p,.ptr 1 0 0 [],.ptr 2 0 0 [],.str held,.int f],.mk tka [.int aw,.str akey,.str aiv,.int am],.mk tkb [.int bw,.str bkey,.str biv,.int bm]]))
  |_,_=>False
set_option maxHeartbeats 4000000 in
theorem zuf:zm prog 16 zl5:=by
  refine zk y3 (zc zqc zg) rfl func16 rfl call16 (D:=yhi) ?_ ?_
  ·intro args hp K h
   unfold zl5 at h
   split at h
   ·exact Nat.le_of_ble_eq_true rfl
   ·exact Nat.le_of_ble_eq_true rfl
   ·exact Nat.le_of_ble_eq_true rfl
   ·exact Nat.le_of_ble_eq_true rfl
   ·exact h.elim
  ·intro args hp K h
   unfold zl5 at h
   split at h
   ·rename_i w s t0 p held f
    obtain ⟨hl,h⟩:=zl h
    obtain ⟨ht,hf⟩:=zy h
    generalize e:decide (su w)=c at ht hf
    cases c
    ·have h:=hf rfl
     refine za ?_
     exact ze [0] h
    ·have h:=ht rfl
     refine za ?_
     exact ze [0,1] h
   ·rename_i w s t0 p held f tka aw akey aiv am
    obtain ⟨hl,h⟩:=zl h
    obtain ⟨ht,hf⟩:=zy h
    generalize e:decide (su w)=c at ht hf
    cases c
    ·have h:=hf rfl
     refine za ?_
     exact ze [0,1] h
    ·have h:=ht rfl
     refine za ?_
     exact ze [0,1,2] h
   ·rename_i w s t0 p held f tkb bw bkey biv bm
    obtain ⟨hl,h⟩:=zl h
    obtain ⟨ht,hf⟩:=zy h
    generalize e:decide (su w)=c at ht hf
    cases c
    ·have h:=hf rfl
     refine za ?_
     exact ze [0,1] h
    ·have h:=ht rfl
     refine za ?_
     exact ze [0,1,2] h
   ·rename_i w s t0 p held f tka aw akey aiv am tkb bw bkey biv bm
    obtain ⟨hl,h⟩:=zl h
    obtain ⟨ht,hf⟩:=zy h
    generalize e:decide (su w)=c at ht hf
    cases c
    ·have h:=hf rfl
     refine za ?_
     exact ze [0,1,2] h
    ·have h:=ht rfl
     refine za ?_
     exact ze [0,1,2,3] h
   ·exact h.elim
def znf:Spec:=fun args hp K=>match args,hp with
  | [.ptr 0 0 0 [],.int w,.str s],[.mk t0 [.int p,.nilptr,.nilptr,.str held,.int f]]=>Pre (s.length≤140737488351232) (zx (decide (su w)) (K (.int 0) [.mk t0 [.int p,.ptr 1 0 0 [],.nilptr,.str held,.int f],.mk 103 [.int w,.str (kyF w s),.str (ivF w s),.int 0]]) (K (.int 2100) [.mk t0 [.int p,.nilptr,.nilptr,.str held,.int f]]))
  | [.ptr 0 0 0 [],.int w,.str s],[.mk t0 [.int p,.ptr 1 0 0 [],.nilptr,.str held,.int f],.mk tka [.int aw,.str akey,.str aiv,.int am]]=>Pre (s.length≤140737488351232) (zx (decide (su w)) (K (.int 0) [.mk t0 [.int p,.ptr 2 0 0 [],.nilptr,.str held,.int f],.mk tka [.int aw,.str akey,.str aiv,.int am],.mk 103 [.int w,.str (kyF w s),.str (ivF w s),.int 0]]) (K (.int 2100) [.mk t0 [.int p,.ptr 1 0 0 [],.nilptr,.str held,.int f],.mk tka [.int aw,.str akey,.str aiv,.int am]]))
  | [.ptr 0 0 0 [],.int w,.str s],[.mk t0 [.int p,.nilptr,.ptr 1 0 0 [],.str held,.int f],.mk tkb [.int bw,.str bkey,.str biv,.int bm]]=>Pre (s.length≤140737488351232) (zx (decide (su w)) (K (.int 0) [.mk t0 [.int p,.ptr 2 0 0 [],.ptr 1 0 0 [],.str held,.int f],.mk tkb [.int bw,.str bkey,.str biv,.int bm],.mk 103 [.int w,.str (kyF w s),.str (ivF w s),.int 0]]) (K (.int 2100) [.mk t0 [.int p,.nilptr,.ptr 1 0 0 [],.str held,.int f],.mk tkb [.int bw,.str bkey,.str biv,.int bm]]))
  | [.ptr 0 0 0 [],.int w,.str s],[.mk t0 [.int p,.ptr 1 0 0 [],.ptr 2 0 0 [],.str held,.int f],.mk tka [.int aw,.str akey,.str aiv,.int am],.mk tkb [.int bw,.str bkey,.str biv,.int bm]]=>Pre (s.length≤140737488351232) (zx (decide (su w)) (K (.int 0) [.mk t0 [.int p,.ptr 3 0 0 [],.ptr 2 0 0 [],.str held,.int f],.mk tka [.int aw,.str akey,.str aiv,.int am],.mk tkb [.int bw,.str bkey,.str biv,.int bm],.mk 103 [.int w,.str (kyF w s),.str (ivF w s),.int 0]]) (K (.int 2100) [.mk t0 [.int p,.ptr 1 0 0 [],.ptr 2 0 0 [],.str held,.int f],.mk tka [.int aw,.str akey,.str aiv,.int am],.mk tkb [.int bw,.str bkey,.str biv,.int bm]]))
  |_,_=>False
set_option maxHeartbeats 4000000 in
theorem z0b:zm prog 44 znf:=by
  refine zk y3 (zc zqc zg) rfl func44 rfl call44 (D:=yhx) ?_ ?_
  ·intro args hp K h
   unfold znf at h
   split at h
   ·exact Nat.le_of_ble_eq_true rfl
   ·exact Nat.le_of_ble_eq_true rfl
   ·exact Nat.le_of_ble_eq_true rfl
   ·exact Nat.le_of_ble_eq_true rfl
   ·exact h.elim
  ·intro args hp K h
   unfold znf at h
   split at h
   ·rename_i w s t0 p held f
    obtain ⟨hl,h⟩:=zl h
    obtain ⟨ht,hf⟩:=zy h
    generalize e:decide (su w)=c at ht hf
    cases c
    ·have h:=hf rfl
     refine za ?_
     exact ze [0] h
    ·have h:=ht rfl
     refine za ?_
     exact ze [0,1] h
   ·rename_i w s t0 p held f tka aw akey aiv am
    obtain ⟨hl,h⟩:=zl h
    obtain ⟨ht,hf⟩:=zy h
    generalize e:decide (su w)=c at ht hf
    cases c
    ·have h:=hf rfl
     refine za ?_
     exact ze [0,1] h
    ·have h:=ht rfl
     refine za ?_
     exact ze [0,1,2] h
   ·rename_i w s t0 p held f tkb bw bkey biv bm
    obtain ⟨hl,h⟩:=zl h
    obtain ⟨ht,hf⟩:=zy h
    generalize e:decide (su w)=c at ht hf
    cases c
    ·have h:=hf rfl
     refine za ?_
     exact ze [0,1] h
    ·have h:=ht rfl
     refine za ?_
     exact ze [0,1,2] h
   ·rename_i w s t0 p held f tka aw akey aiv am tkb bw bkey biv bm
    obtain ⟨hl,h⟩:=zl h
    obtain ⟨ht,hf⟩:=zy h
    generalize e:decide (su w)=c at ht hf
    cases c
    ·have h:=hf rfl
     refine za ?_
     exact ze [0,1,2] h
    ·have h:=ht rfl
     refine za ?_
     exact ze [0,1,2,3] h
   ·exact h.elim
def znc:Spec:=fun args hp K=>match args,hp with
  | [.ptr 0 0 0 [],.int w,.str s],[.mk t0 [.int p,.nilptr,.nilptr,.str held,.int f]]=>Pre (s.length≤140737488351232) (zx (decide (su w)) (K (.int 0) [.mk t0 [.int p,.ptr 1 0 0 [],.nilptr,.str held,.int f],.mk 103 [.int w,.str (kyF w s),.str (ivF w s),.int 0]]) (K (.int 2100) [.mk t0 [.int p,.nilptr,.nilptr,.str held,.int f]]))
  | [.ptr 0 0 0 [],.int w,.str s],[.mk t0 [.int p,.ptr 1 0 0 [],.nilptr,.str held,.int f],.mk tka [.int aw,.str akey,.str aiv,.int am]]=>Pre (s.length≤140737488351232) (zx (decide (su w)) (K (.int 0) [.mk t0 [.int p,.ptr 2 0 0 [],.nilptr,.str held,.int f],.mk tka [.int aw,.str akey,.str aiv,.int am],.mk 103 [.int w,.str (kyF w s),.str (ivF w s),.int 0]]) (K (.int 2100) [.mk t0 [.int p,.ptr 1 0 0 [],.nilptr,.str held,.int f],.mk tka [.int aw,.str akey,.str aiv,.int am]]))
  | [.ptr 0 0 0 [],.int w,.str s],[.mk t0 [.int p,.nilptr,.ptr 1 0 0 [],.str held,.int f],.mk tkb [.int bw,.str bkey,.str biv,.int bm]]=>Pre (s.length≤140737488351232) (zx (decide (su w)) (K (.int 0) [.mk t0 [.int p,.ptr 2 0 0 [],.ptr 1 0 0 [],.str held,.int f],.mk tkb [.int bw,.str bkey,.str biv,.int bm],.mk 103 [.int w,.str (kyF w s),.str (ivF w s),.int 0]]) (K (.int 2100) [.mk t0 [.int p,.nilptr,.ptr 1 0 0 [],.str held,.int f],.mk tkb [.int bw,.str bkey,.str biv,.int bm]]))
  | [.ptr 0 0 0 [],.int w,.str s],[.mk t0 [.int p,.ptr 1 0 0 [],.ptr 2 0 0 [],.str held,.int f],.mk tka [.int aw,.str akey,.str aiv,.int am],.mk tkb [.int bw,.str bkey,.str biv,.int bm]]=>Pre (s.length≤140737488351232) (zx (decide (su w)) (K (.int 0) [.mk t0 [.int p,.ptr 3 0 0 [],.ptr 2 0 0 [],.str held,.int f],.mk tka [.int aw,.str akey,.str aiv,.int am],.mk tkb [.int bw,.str bkey,.str biv,.int bm],.mk 103 [.int w,.str (kyF w s),.str (ivF w s),.int 0]]) (K (.int 2100) [.mk t0 [.int p,.ptr 1 0 0 [],.ptr 2 0 0 [],.str held,.int f],.mk tka [.int aw,.str akey,.str aiv,.int am],.mk tkb [.int bw,.str bkey,.str biv,.int bm]]))
  |_,_=>False
set_option maxHeartbeats 4000000 in
theorem z0a:zm prog 18 znc:=by
  refine zk y3 (zc z0b zg) rfl func18 rfl call18 (D:=yhw) ?_ ?_
  ·intro args hp K h
   unfold znc at h
   split at h
   ·exact Nat.le_of_ble_eq_true rfl
   ·exact Nat.le_of_ble_eq_true rfl
   ·exact Nat.le_of_ble_eq_true rfl
   ·exact Nat.le_of_ble_eq_true rfl
   ·exact h.elim
  ·intro args hp K h
   unfold znc at h
   split at h
   ·rename_i w s t0 p held f
    obtain ⟨hl,h⟩:=zl h
    obtain ⟨ht,hf⟩:=zy h
    generalize e:decide (su w)=c at ht hf
    cases c
    ·have h:=hf rfl
     refine za ?_
     exact ze [0] h
    ·have h:=ht rfl
     refine za ?_
     exact ze [0,1] h
   ·rename_i w s t0 p held f tka aw akey aiv am
    obtain ⟨hl,h⟩:=zl h
    obtain ⟨ht,hf⟩:=zy h
    generalize e:decide (su w)=c at ht hf
    cases c
    ·have h:=hf rfl
     refine za ?_
     exact ze [0,1] h
    ·have h:=ht rfl
     refine za ?_
     exact ze [0,1,2] h
   ·rename_i w s t0 p held f tkb bw bkey biv bm
    obtain ⟨hl,h⟩:=zl h
    obtain ⟨ht,hf⟩:=zy h
    generalize e:decide (su w)=c at ht hf
    cases c
    ·have h:=hf rfl
     refine za ?_
     exact ze [0,1] h
    ·have h:=ht rfl
     refine za ?_
     exact ze [0,1,2] h
   ·rename_i w s t0 p held f tka aw akey aiv am tkb bw bkey biv bm
    obtain ⟨hl,h⟩:=zl h
    obtain ⟨ht,hf⟩:=zy h
    generalize e:decide (su w)=c at ht hf
    cases c
    ·have h:=hf rfl
     refine za ?_
     exact ze [0,1,2] h
    ·have h:=ht rfl
     refine za ?_
     exact ze [0,1,2,3] h
   ·exact h.elim
def inL (p n:Int):Int:=if 0<p then min ((n+1+p-1)/ p*p) 16385 else n+1
def zra:Spec:=fun args hp K=>match args,hp with
  | [.ptr 0 0 0 [],.int n],[.mk t0 [.int p,.ptr 1 0 0 [],.nilptr,.str held,.int f],.mk tka [.int aw,.str akey,.str aiv,.int am]]=>Pre (0≤n∧n≤16384∧0≤p∧p≤16384) (K (.int (inL p n)) [.mk t0 [.int p,.ptr 1 0 0 [],.nilptr,.str held,.int f],.mk tka [.int aw,.str akey,.str aiv,.int am]])
  | [.ptr 0 0 0 [],.int n],[.mk t0 [.int p,.ptr 1 0 0 [],.ptr 2 0 0 [],.str held,.int f],.mk tka [.int aw,.str akey,.str aiv,.int am],.mk tkb [.int bw,.str bkey,.str biv,.int bm]]=>Pre (0≤n∧n≤16384∧0≤p∧p≤16384) (K (.int (inL p n)) [.mk t0 [.int p,.ptr 1 0 0 [],.ptr 2 0 0 [],.str held,.int f],.mk tka [.int aw,.str akey,.str aiv,.int am],.mk tkb [.int bw,.str bkey,.str biv,.int bm]])
  |_,_=>False
set_option maxHeartbeats 4000000 in
theorem z42:zm prog 65 zra:=by
  refine zk y3 zg rfl func65 rfl call65 (D:=yhk) ?_ ?_
  ·intro args hp K h
   unfold zra at h
   split at h
   ·exact Nat.le_of_ble_eq_true rfl
   ·exact Nat.le_of_ble_eq_true rfl
   ·exact h.elim
  ·intro args hp K h
   unfold zra at h
   split at h
   ·rename_i n t0 p held f tka aw akey aiv am
    obtain ⟨⟨hn0,hn1,hp0,hp1⟩,h⟩:=zl h
    by_cases h0:0<p
    ·have hq:(n+1+p-1).tdiv p=(n+1+p-1)/ p:=Int.tdiv_eq_ediv_of_nonneg (by omega)
     have hm1:=Int.ediv_mul_le (n+1+p-1) (show p≠0 by omega)
     have hm0:0≤(n+1+p-1)/ p:=Int.ediv_nonneg (by omega) (by omega)
     have hm2:0≤(n+1+p-1)/ p*p:=Int.mul_nonneg hm0 hp0
     have hm3:(n+1+p-1)/ p≤n+1+p-1:=Int.ediv_le_self _ (by omega)
     have hpd:p≠0∧yb ((n+1+p-1).tdiv p):=⟨by omega,by rw [hq];unfold yb;omega⟩
     have hpm:yb ((n+1+p-1).tdiv p*p):=by rw [hq];unfold yb;omega
     have hG:inL p n=min ((n+1+p-1).tdiv p*p) 16385:=by unfold inL;rw [if_pos h0,hq]
     rw [hG] at h
     refine za ?_
     exact ze [0,1] h
    ·have hG:inL p n=n+1:=by unfold inL;rw [if_neg h0]
     rw [hG] at h
     refine za ?_
     exact ze [0,1] h
   ·rename_i n t0 p held f tka aw akey aiv am tkb bw bkey biv bm
    obtain ⟨⟨hn0,hn1,hp0,hp1⟩,h⟩:=zl h
    by_cases h0:0<p
    ·have hq:(n+1+p-1).tdiv p=(n+1+p-1)/ p:=Int.tdiv_eq_ediv_of_nonneg (by omega)
     have hm1:=Int.ediv_mul_le (n+1+p-1) (show p≠0 by omega)
     have hm0:0≤(n+1+p-1)/ p:=Int.ediv_nonneg (by omega) (by omega)
     have hm2:0≤(n+1+p-1)/ p*p:=Int.mul_nonneg hm0 hp0
     have hm3:(n+1+p-1)/ p≤n+1+p-1:=Int.ediv_le_self _ (by omega)
     have hpd:p≠0∧yb ((n+1+p-1).tdiv p):=⟨by omega,by rw [hq];unfold yb;omega⟩
     have hpm:yb ((n+1+p-1).tdiv p*p):=by rw [hq];unfold yb;omega
     have hG:inL p n=min ((n+1+p-1).tdiv p*p) 16385:=by unfold inL;rw [if_pos h0,hq]
     rw [hG] at h
     refine za ?_
     exact ze [0,1,2] h
    ·have hG:inL p n=n+1:=by unfold inL;rw [if_neg h0]
     rw [hG] at h
     refine za ?_
     exact ze [0,1,2] h
   ·exact h.elim
end Go.Sym.Z
