/-
  Contracts of functions of the program, each said of symbolic values, and plain laws; no condition beyond each statement's own.
-/
import Derived.Test.YtmmpgjcpielefaaGreatGLRecActs32
import Derived.Test.YtmmpgjcpielefaaGreatGLRecActs35
import Derived.Test.YtmmpgjcpielefaaGreatGLRecActs36
import Derived.Test.YtmmpgjcpielefaaGreatGLRecActs25
set_option linter.unusedSimpArgs false
set_option linter.unusedVariables false
namespace Go.Sym.Z
open Go Go.Proofs.Tryz Go.Sym.Lp Go.Sym.Gcm Go.Sym.Aes Go.Sym.Pol Go.Sym.Cha
set_option maxRecDepth 100000
def yle:List (Nat×List PStep):= []
def yjt:List (Nat×List PStep):= []
def yjq:List (Nat×List PStep):= []
theorem zkl (key nonce aad b:List UInt8):zds key nonce aad b=yv key nonce aad b:=by
  unfold zds yv
  have hl:((blk key nonce 0).take 32).length=32:=by rw [List.length_take,zf0];rfl
  exact (z5s (by omega) aad b).symm
theorem zqk (key nonce aad s:List UInt8):zlt key nonce aad s=za1 key nonce aad s:=by
  unfold zlt za1
  rw [zkl]
attribute [local irreducible] za1 yv zg5 zev zfm xg zlt zds
theorem z74: ∀args hp K,zym args hp K→zkh args hp K:=by
  intro args hp K h
  unfold zym at h
  unfold zkh
  split at h
  ·obtain ⟨h0,h⟩:=zn h
   try dsimp only
   rw [if_pos h0,zqk];exact h
  ·exact h.elim
theorem z8z: ∀args hp K,zlk args hp K→zkp args hp K:=by
  intro args hp K h
  unfold zlk at h
  unfold zkp
  split at h
  ·obtain ⟨h0,h⟩:=zn h
   obtain ⟨ht,hn⟩:=zw h
   try dsimp only
   refine zr (by omega) ?_
   rw [zkl]
   split
   ·rename_i hc;exact ht (decide_eq_true hc.2)
   ·rename_i hc;exact hn (decide_eq_false fun hh=>hc ⟨h0,hh⟩)
  ·exact h.elim
theorem z3n:zp prog 55 zym:=zl5 z40 z74
theorem z2r:zp prog 56 zxq:=zl5 z8y ybo
theorem z3g:zp prog 98 zlk:=zl5 z6o z8z
theorem z13:zp prog 99 zs5:=zl5 z6n z01
theorem zkt:zp prog 53 zl1:=by
  refine zm yy zi rfl func53 rfl call53 (D:=yle) ?_ ?_
  ·intro args hp K h
   unfold zl1 at h
   split at h
   ·exact Nat.le_of_ble_eq_true rfl
   ·exact h.elim
  ·intro args hp K h
   unfold zl1 at h
   split at h
   ·rename_i w
    obtain ⟨ht,hn⟩:=zw h
    by_cases h1:w=4865
    ·have h:=ht (decide_eq_true h1)
     refine za ?_
     exact zd [] h
    ·have h:=hn (decide_eq_false h1)
     obtain ⟨ht,hn⟩:=zw h
     by_cases h2:w=4866
     ·have h:=ht (decide_eq_true h2)
      refine za ?_
      exact zd [] h
     ·have h:=hn (decide_eq_false h2)
      obtain ⟨ht,hn⟩:=zw h
      by_cases h3:w=4867
      ·have h:=ht (decide_eq_true h3)
       refine za ?_
       exact zd [] h
      ·have h:=hn (decide_eq_false h3)
       refine za ?_
       exact zd [] h
   ·exact h.elim
set_option maxHeartbeats 4000000 in
theorem z6e:zp prog 27 zys:=by
  refine zm yy (zc zkt (zc z3n (zc z2r zi))) rfl func27 rfl call27 (D:=yjt) ?_ ?_
  ·intro args hp K h
   unfold zys at h
   split at h
   ·exact Nat.le_of_ble_eq_true rfl
   ·exact h.elim
  ·intro args hp K h
   unfold zys at h
   split at h
   ·rename_i w key nonce aad s
    obtain ⟨ht,hn⟩:=zw h
    have four:w=4865∨w=4866∨w=4867∨(w≠4865∧w≠4866∧w≠4867):=by omega
    by_cases h0:zd9 w key.length∧nonce.length=12∧aad.length≤65536∧(s.length:Int)≤65536
    ·have h:=ht (decide_eq_true h0)
     have hd:=decide_eq_true h0
     obtain ⟨hk,h1,h2,h3⟩:=h0
     unfold zd9 at hk
     unfold xi at h
     by_cases h4:w=4867
     ·rw [if_pos h4] at h
      have hpp:key.length=32∧nonce.length=12∧aad.length≤65536∧(s.length:Int)≤65536:=⟨by omega,h1,h2,h3⟩
      repeat ((conv=>whnf);first|refine zq ?_|refine zg ?_|refine zf ?_|refine zb ?_|refine zr (by first|exact hd|(rw [hd];rfl)) ?_|refine zj (by first|exact hd|(rw [hd];rfl)) ?_|refine zk (by first|exact hd|(rw [hd];rfl)) ?_)
      conv=>whnf
      exact zd [] h
     ·rw [if_neg h4] at h
      have hpp:(key.length=16∨key.length=32)∧nonce.length=12∧aad.length≤65536∧(s.length:Int)≤65536:=⟨by omega,h1,h2,h3⟩
      rcases hk with ⟨g0,g1⟩|⟨g0,g1⟩|⟨g0,g1⟩
      ·refine za ?_
       exact zd [] h
      ·refine za ?_
       exact zd [] h
      ·exact absurd g0 h4
    ·have h:=hn (decide_eq_false h0)
     rcases four with h1|h1|h1|⟨h1,h2,h3⟩
     ·by_cases g1:key.length=16
      ·by_cases g2:nonce.length=12
       ·by_cases g3:aad.length≤65536
        ·have g4: ¬(s.length:Int)≤65536:=fun g=>h0 ⟨.inl ⟨h1,g1⟩,g2,g3,g⟩
         refine za ?_
         exact zd [] h
        ·refine za ?_
         exact zd [] h
       ·refine za ?_
        exact zd [] h
      ·refine za ?_
       exact zd [] h
     ·by_cases g1:key.length=32
      ·by_cases g2:nonce.length=12
       ·by_cases g3:aad.length≤65536
        ·have g4: ¬(s.length:Int)≤65536:=fun g=>h0 ⟨.inr (.inl ⟨h1,g1⟩),g2,g3,g⟩
         refine za ?_
         exact zd [] h
        ·refine za ?_
         exact zd [] h
       ·refine za ?_
        exact zd [] h
      ·refine za ?_
       exact zd [] h
     ·by_cases g1:key.length=32
      ·by_cases g2:nonce.length=12
       ·by_cases g3:aad.length≤65536
        ·have g4: ¬(s.length:Int)≤65536:=fun g=>h0 ⟨.inr (.inr ⟨h1,g1⟩),g2,g3,g⟩
         refine za ?_
         exact zd [] h
        ·refine za ?_
         exact zd [] h
       ·refine za ?_
        exact zd [] h
      ·refine za ?_
       exact zd [] h
     ·refine za ?_
      exact zd [] h
   ·exact h.elim
set_option maxHeartbeats 4000000 in
theorem z9b:zp prog 71 zlu:=by
  refine zm yy (zc zkt (zc z3g (zc z13 zi))) rfl func71 rfl call71 (D:=yjq) ?_ ?_
  ·intro args hp K h
   unfold zlu at h
   split at h
   ·exact Nat.le_of_ble_eq_true rfl
   ·exact h.elim
  ·intro args hp K h
   unfold zlu at h
   split at h
   ·rename_i w key nonce aad s
    obtain ⟨hs63,h⟩:=zn h
    obtain ⟨ht0,hn0⟩:=zw h
    have four:w=4865∨w=4866∨w=4867∨(w≠4865∧w≠4866∧w≠4867):=by omega
    by_cases h0:zd9 w key.length∧nonce.length=12∧aad.length≤65536∧(s.length:Int)-16≤65536
    ·have h:=ht0 (decide_eq_true h0)
     have hd:=decide_eq_true h0
     obtain ⟨hk,h1,h2,h3⟩:=h0
     unfold zd9 at hk
     unfold zau y0 at h
     by_cases h4:w=4867
     ·rw [if_pos h4,if_pos h4] at h
      obtain ⟨ht,hn⟩:=zw h
      have hpp:key.length=32∧nonce.length=12∧aad.length≤65536∧(s.length:Int)-16≤65536:=⟨by omega,h1,h2,h3⟩
      by_cases hq:16≤s.length∧yv key nonce aad (s.take (s.length-16))=s.drop (s.length-16)
      ·have h:=ht (decide_eq_true hq)
       have hdq:=decide_eq_true hq
       repeat ((conv=>whnf);first|refine zq ?_|refine zg ?_|refine zf ?_|refine zb ?_|refine zr (by first|exact hd|(rw [hd];rfl)|exact hdq) ?_|refine zj (by first|exact hd|(rw [hd];rfl)|exact hdq) ?_|refine zk (by first|exact hd|(rw [hd];rfl)|exact hdq) ?_)
       conv=>whnf
       exact zd [] h
      ·have h:=hn (decide_eq_false hq)
       have hdq:=decide_eq_false hq
       repeat ((conv=>whnf);first|refine zq ?_|refine zg ?_|refine zf ?_|refine zb ?_|refine zr (by first|exact hd|(rw [hd];rfl)|exact hdq) ?_|refine zj (by first|exact hd|(rw [hd];rfl)|exact hdq) ?_|refine zk (by first|exact hd|(rw [hd];rfl)|exact hdq) ?_)
       conv=>whnf
       exact zd [] h
     ·rw [if_neg h4,if_neg h4] at h
      obtain ⟨ht,hn⟩:=zw h
      rcases hk with ⟨g0,g1⟩|⟨g0,g1⟩|⟨g0,g1⟩
      ·have hpp:(key.length=16∨key.length=32)∧nonce.length=12∧aad.length≤65536∧(s.length:Int)-16≤65536:=⟨by omega,h1,h2,h3⟩
       by_cases hq:16≤s.length∧zev key nonce aad (s.take (s.length-16))=s.drop (s.length-16)
       ·have h:=ht (decide_eq_true hq)
        have hdq:=decide_eq_true hq
        repeat ((conv=>whnf);first|refine zq ?_|refine zg ?_|refine zf ?_|refine zb ?_|refine zr (by first|exact hd|(rw [hd];rfl)|exact hdq) ?_|refine zj (by first|exact hd|(rw [hd];rfl)|exact hdq) ?_|refine zk (by first|exact hd|(rw [hd];rfl)|exact hdq) ?_)
        conv=>whnf
        exact zd [] h
       ·have h:=hn (decide_eq_false hq)
        have hdq:=decide_eq_false hq
        repeat ((conv=>whnf);first|refine zq ?_|refine zg ?_|refine zf ?_|refine zb ?_|refine zr (by first|exact hd|(rw [hd];rfl)|exact hdq) ?_|refine zj (by first|exact hd|(rw [hd];rfl)|exact hdq) ?_|refine zk (by first|exact hd|(rw [hd];rfl)|exact hdq) ?_)
        conv=>whnf
        exact zd [] h
      ·have hpp:(key.length=16∨key.length=32)∧nonce.length=12∧aad.length≤65536∧(s.length:Int)-16≤65536:=⟨by omega,h1,h2,h3⟩
       by_cases hq:16≤s.length∧zev key nonce aad (s.take (s.length-16))=s.drop (s.length-16)
       ·have h:=ht (decide_eq_true hq)
        have hdq:=decide_eq_true hq
        repeat ((conv=>whnf);first|refine zq ?_|refine zg ?_|refine zf ?_|refine zb ?_|refine zr (by first|exact hd|(rw [hd];rfl)|exact hdq) ?_|refine zj (by first|exact hd|(rw [hd];rfl)|exact hdq) ?_|refine zk (by first|exact hd|(rw [hd];rfl)|exact hdq) ?_)
        conv=>whnf
        exact zd [] h
       ·have h:=hn (decide_eq_false hq)
        have hdq:=decide_eq_false hq
        repeat ((conv=>whnf);first|refine zq ?_|refine zg ?_|refine zf ?_|refine zb ?_|refine zr (by first|exact hd|(rw [hd];rfl)|exact hdq) ?_|refine zj (by first|exact hd|(rw [hd];rfl)|exact hdq) ?_|refine zk (by first|exact hd|(rw [hd];rfl)|exact hdq) ?_)
        conv=>whnf
        exact zd [] h
      ·exact absurd g0 h4
    ·have h:=hn0 (decide_eq_false h0)
     rcases four with h1|h1|h1|⟨h1,h2,h3⟩
     ·by_cases g1:key.length=16
      ·by_cases g2:nonce.length=12
       ·by_cases g3:aad.length≤65536
        ·have g4: ¬(s.length:Int)-16≤65536:=fun g=>h0 ⟨.inl ⟨h1,g1⟩,g2,g3,g⟩
         refine za ?_
         exact zd [] h
        ·refine za ?_
         exact zd [] h
       ·refine za ?_
        exact zd [] h
      ·refine za ?_
       exact zd [] h
     ·by_cases g1:key.length=32
      ·by_cases g2:nonce.length=12
       ·by_cases g3:aad.length≤65536
        ·have g4: ¬(s.length:Int)-16≤65536:=fun g=>h0 ⟨.inr (.inl ⟨h1,g1⟩),g2,g3,g⟩
         refine za ?_
         exact zd [] h
        ·refine za ?_
         exact zd [] h
       ·refine za ?_
        exact zd [] h
      ·refine za ?_
       exact zd [] h
     ·by_cases g1:key.length=32
      ·by_cases g2:nonce.length=12
       ·by_cases g3:aad.length≤65536
        ·have g4: ¬(s.length:Int)-16≤65536:=fun g=>h0 ⟨.inr (.inr ⟨h1,g1⟩),g2,g3,g⟩
         refine za ?_
         exact zd [] h
        ·refine za ?_
         exact zd [] h
       ·refine za ?_
        exact zd [] h
      ·refine za ?_
       exact zd [] h
     ·refine za ?_
      exact zd [] h
   ·exact h.elim
end Go.Sym.Z

namespace Go.Sym.Z
open Go Go.Proofs.Tryz Go.Sym.Lp Go.Sym.Cha Go.Sym.Sha Go.Sym.Hk Go.Sym.Gcm
set_option maxRecDepth 100000
def yih:List (Nat×List PStep):= []
def yg8:List (Nat×List PStep):= []
def yjz:List (Nat×List PStep):= []
def yj6:List (Nat×List PStep):= []
def yku:List (Nat×List PStep):= []
def yk3:List (Nat×List PStep):= []
def ykq:List (Nat×List PStep):= []
def yke:List (Nat×TyI):= [(3,ty3),(4,ty4),(5,ty5),(9,ty9),(48,zd5),(51,zee),(113,xv),(99,xo),(76,zmx)]
theorem zfq: ∀t i,xa yke t=some i→yx prog t i:=(ze zcs (ze zc1 (ze zct (ze zcw (ze zbj (ze zbi (ze zbg (ze zca (ze z1d zat)))))))))
attribute [local irreducible] zn7 xz
set_option maxHeartbeats 4000000 in
theorem z3f:zp prog 100 zif:=by
  refine zm zfq (zc yfm (zc yib zi)) rfl func100 rfl call100 (D:=yih) ?_ ?_
  ·intro args hp K h
   unfold zif at h
   split at h
   ·exact Nat.le_of_ble_eq_true rfl
   ·exact h.elim
  ·intro args hp K h
   unfold zif at h
   split at h
   ·rename_i n key info size
    obtain ⟨⟨hn,hk,hi,hs0,hs⟩,h⟩:=zn h
    obtain ⟨z,rfl⟩:=Int.eq_ofNat_of_zero_le hs0
    rw [Int.toNat_natCast] at h
    have hd:=decide_eq_true hn
    have h8:(8:Int)≠0∧ya ((255*n).tdiv 8):=by rcases hn with rfl|rfl<;>exact ⟨by decide,by unfold ya;decide⟩
    have hmx:8160≤(255*n).tdiv 8:=by rcases hn with rfl|rfl<;>decide
    have hfit:ya (255*n):=by rcases hn with rfl|rfl<;>(unfold ya;decide)
    repeat ((conv=>whnf);first|refine zq ?_|refine zg ?_|refine zf ?_|refine zb ?_|refine zr (by first|(rw [hd];rfl)) ?_|refine zj (by first|(rw [hd];rfl)) ?_|refine zk (by first|(rw [hd];rfl)) ?_)
    conv=>whnf
    obtain ⟨d,hdl,hd0⟩: ∃d,dl n=d∧(d=32∨d=48):=⟨_,rfl,by unfold dl;split<;>simp⟩
    have hF:exF n key info z=(xz n key info ((z+d-1)/ d)).1.take z:=by unfold exF;rw [hdl]
    rw [hF] at h
    have hN: ∀i,i<(z+d-1)/ d↔d*i<z:=by
      intro i;rcases hd0 with rfl|rfl<;>omega
    have hN2:z≤d*((z+d-1)/ d):=by rcases hd0 with rfl|rfl<;>omega
    obtain ⟨N,hNN⟩: ∃N,N=(z+d-1)/ d:=⟨_,rfl⟩
    rw [←hNN] at h hN hN2
    have hdd:d≤48:=by omega
    have hNb:N≤1000:=by rw [hNN];rcases hd0 with rfl|rfl<;>omega
    clear hd0 hF hNN
    refine zt (Ix (N)) (fun q=>⟨[(0,.int n),(1,.str key),(2,.str info),(3,.int z),(10,.str (xz n key info q.i).1),(11,.str (xz n key info q.i).2),(12,.int ((q.i:Int)+1))],[]⟩) (fun q=>(N)-q.i) ⟨0,Nat.zero_le _⟩ [] ?_ ?_
    ·repeat ((conv=>whnf);refine zb ?_)
     conv=>whnf
     refine zu (congrArg (fun x:List UInt8×List UInt8=>SV.str x.1) (show (([],[]):List UInt8×List UInt8)=xz n key info 0 by unfold xz;rfl)) ?_
     repeat ((conv=>whnf);refine zb ?_)
     conv=>whnf
     exact zl (congrArg (fun x:List UInt8×List UInt8=>SV.str x.2) (show (([],[]):List UInt8×List UInt8)=xz n key info 0 by unfold xz;rfl))
    ·intro q
     have hqi:=q.hi
     obtain ⟨hel,hel2⟩:=zj6 hn key info q.i
     rw [hdl] at hel
     have hdq:d*q.i≤48*1000:=Nat.mul_le_mul hdd (by omega)
     by_cases h4:q.i<N
     ·have hlt:=(hN q.i).1 h4
      have hml:=zxb hn key ((xz n key info q.i).2++info++List.take 1 (List.drop (off []) ((List.replicate 1 0).set (off [(0,ty5.sz)]) (UInt8.ofInt ((q.i:Int)+1)))))
      have hXl:((xz n key info q.i).2++info++List.take 1 (List.drop (off []) ((List.replicate 1 0).set (off [(0,ty5.sz)]) (UInt8.ofInt ((q.i:Int)+1))))).length≤140737488351232:=by rw [zex,List.length_append,List.length_append];show _+_+1≤_;omega
      have hpm:(n=256∨n=384)∧key.length≤140737488351232∧((xz n key info q.i).2++info++List.take 1 (List.drop (off []) ((List.replicate 1 0).set (off [(0,ty5.sz)]) (UInt8.ofInt ((q.i:Int)+1))))).length≤140737488351232:=⟨hn,hk,hXl⟩
      rw [hdl] at hml
      have hE1:(xz n key info q.i).1++zn7 n key ((xz n key info q.i).2++info++List.take 1 (List.drop (off []) ((List.replicate 1 0).set (off [(0,ty5.sz)]) (UInt8.ofInt ((q.i:Int)+1)))))=(xz n key info (q.i+1)).1:=by simp only [xz];rw [zex]
      have hE2:zn7 n key ((xz n key info q.i).2++info++List.take 1 (List.drop (off []) ((List.replicate 1 0).set (off [(0,ty5.sz)]) (UInt8.ofInt ((q.i:Int)+1)))))=(xz n key info (q.i+1)).2:=by simp only [xz];rw [zex]
      refine za ?_
      conv=>whnf
      refine ⟨⟨q.i+1,h4⟩,[],by show (N)-(q.i+1)<(N)-q.i;omega,?_⟩
      repeat ((conv=>whnf);refine zb ?_)
      conv=>whnf
      refine zu (congrArg SV.str hE1) ?_
      repeat ((conv=>whnf);refine zb ?_)
      conv=>whnf
      exact zl (congrArg SV.str hE2)
     ·have e4:q.i=N:=by omega
      have hge: ¬d*q.i<z:=fun hh=>h4 ((hN q.i).2 hh)
      rw [←e4] at h
      refine za ?_
      exact zd [] h
   ·exact h.elim
theorem yk9 (x:Int):beB x (Int.toNat 1)= [UInt8.ofInt x]:=by
  show [UInt8.ofInt (x/ 2^0)]=_;rw [Int.pow_zero,Int.ediv_one]
theorem yda (x:Int):beB x (Int.toNat 2)= [UInt8.ofInt (x/ 2^8),UInt8.ofInt x]:=by
  show [UInt8.ofInt (x/ 2^8),UInt8.ofInt (x/ 2^0)]=_;rw [Int.pow_zero,Int.ediv_one]
def vS:Spec:=fun args hp K=>match args,hp with
  | [.str s,.int k],[]=>Pre (k=1∧s.length≤255) (K (.str (UInt8.ofInt (s.length:Int) ::s)) [])
  |_,_=>False
theorem v_s:zp prog 101 vS:=by
  refine zm zfq (zc zwv zi) rfl func101 rfl call101 (D:=yg8) ?_ ?_
  ·intro args hp K h
   unfold vS at h
   split at h
   ·exact Nat.le_of_ble_eq_true rfl
   ·exact h.elim
  ·intro args hp K h
   unfold vS at h
   split at h
   ·rename_i s k
    obtain ⟨⟨hk1,hs⟩,hK⟩:=zn h
    clear h
    subst hk1
    have h:=hK
    have hl:=zah (s.length:Int) (Int.toNat 1)
    refine za ?_
    rw [yk9]
    conv=>whnf
    exact zd [] h
   ·exact h.elim
attribute [local irreducible] exF
theorem z83:zp prog 73 zlf:=by
  refine zm zfq (zc zwv (zc v_s (zc z3f zi))) rfl func73 rfl call73 (D:=yjz) ?_ ?_
  ·intro args hp K h
   unfold zlf at h
   split at h
   ·exact Nat.le_of_ble_eq_true rfl
   ·exact h.elim
  ·intro args hp K h
   unfold zlf at h
   split at h
   ·rename_i n key label ctx size
    obtain ⟨⟨hn,hk,hl,hc,hs0,hs⟩,h⟩:=zn h
    obtain ⟨z,rfl⟩:=Int.eq_ofNat_of_zero_le hs0
    rw [Int.toNat_natCast] at h
    have hIl:([UInt8.ofInt ((z:Int)/ 2^8),UInt8.ofInt (z:Int)]++(UInt8.ofInt ((([116,108,115,49,51,32]++label:List UInt8).length:Nat):Int) ::([116,108,115,49,51,32]++label))++(UInt8.ofInt (ctx.length:Int) ::ctx)).length≤1000:=by simp only [List.length_append,List.length_cons,List.length_nil];omega
    have hpx:(n=256∨n=384)∧key.length≤140737488351232∧([UInt8.ofInt ((z:Int)/ 2^8),UInt8.ofInt (z:Int)]++(UInt8.ofInt ((([116,108,115,49,51,32]++label:List UInt8).length:Nat):Int) ::([116,108,115,49,51,32]++label))++(UInt8.ofInt (ctx.length:Int) ::ctx)).length≤1000∧0≤(z:Int)∧(z:Int)≤1000:=⟨hn,hk,hIl,hs0,hs⟩
    unfold za2 at h
    have hll:(([116,108,115,49,51,32]++label:List UInt8)).length≤255:=by simp only [List.length_append,List.length_cons,List.length_nil];omega
    refine za ?_
    rw [yda]
    refine za ?_
    conv=>whnf
    exact zd [] h
   ·exact h.elim
theorem z9x:zp prog 72 zsb:=by
  refine zm zfq (zc zkt zi) rfl func72 rfl call72 (D:=yj6) ?_ ?_
  ·intro args hp K h
   unfold zsb at h
   split at h
   ·exact Nat.le_of_ble_eq_true rfl
   ·exact h.elim
  ·intro args hp K h
   unfold zsb at h
   split at h
   ·rename_i w
    obtain ⟨ht,hf⟩:=zw h
    have four:w=4865∨w=4866∨w=4867∨(w≠4865∧w≠4866∧w≠4867):=by omega
    rcases four with h0|h0|h0|⟨h0,h1,h2⟩
    ·have h:=ht (decide_eq_true (.inl h0))
     rw [show hB w=256 by unfold hB;rw [if_neg (by omega)]] at h
     refine za ?_
     exact zd [] h
    ·have h:=ht (decide_eq_true (.inr (.inl h0)))
     rw [show hB w=384 by unfold hB;rw [if_pos h0]] at h
     refine za ?_
     exact zd [] h
    ·have h:=ht (decide_eq_true (.inr (.inr h0)))
     rw [show hB w=256 by unfold hB;rw [if_neg (by omega)]] at h
     refine za ?_
     exact zd [] h
    ·have h:=hf (decide_eq_false (by unfold su;omega))
     refine za ?_
     exact zd [] h
   ·exact h.elim
attribute [local irreducible] za2
theorem z2n:zp prog 54 zia:=by
  refine zm zfq (zc z9x (zc z83 zi)) rfl func54 rfl call54 (D:=yku) ?_ ?_
  ·intro args hp K h
   unfold zia at h
   split at h
   ·exact Nat.le_of_ble_eq_true rfl
   ·exact h.elim
  ·intro args hp K h
   unfold zia at h
   split at h
   ·rename_i w key label ctx size
    obtain ⟨⟨hk,hl,hc,hs0,hs⟩,h⟩:=zn h
    obtain ⟨ht,hf⟩:=zw h
    have hp:(hB w=256∨hB w=384)∧key.length≤140737488351232∧label.length≤100∧ctx.length≤255∧0≤size∧size≤1000:=⟨z07 w,hk,hl,hc,hs0,hs⟩
    generalize e:decide (su w)=c at ht hf
    cases c
    ·have h:=hf rfl
     refine za ?_
     exact zd [] h
    ·have h:=ht rfl
     refine za ?_
     exact zd [] h
   ·exact h.elim
theorem ybp:zp prog 26 zry:=by
  refine zm zfq (zc zkt (zc z2n zi)) rfl func26 rfl call26 (D:=yk3) ?_ ?_
  ·intro args hp K h
   unfold zry at h
   split at h
   ·exact Nat.le_of_ble_eq_true rfl
   ·exact h.elim
  ·intro args hp K h
   unfold zry at h
   split at h
   ·rename_i w s
    obtain ⟨hs,h⟩:=zn h
    obtain ⟨ht,hf⟩:=zw h
    have four:w=4865∨w=4866∨w=4867∨(w≠4865∧w≠4866∧w≠4867):=by omega
    rcases four with h0|h0|h0|⟨h0,h1,h2⟩
    ·have hd:decide (su w)=true:=decide_eq_true (.inl h0)
     have h:=ht hd
     rw [show kyF w s=za2 (hB w) s [107,101,121] [] (Int.toNat 16) by unfold kyF aSz;rw [if_pos h0];rfl,show ivF w s=za2 (hB w) s [105,118] [] (Int.toNat 12) by unfold ivF;rfl] at h
     refine za ?_
     exact zd [] h
    ·have hd:decide (su w)=true:=decide_eq_true (.inr (.inl h0))
     have h:=ht hd
     rw [show kyF w s=za2 (hB w) s [107,101,121] [] (Int.toNat 32) by unfold kyF aSz;rw [if_neg (by omega)];rfl,show ivF w s=za2 (hB w) s [105,118] [] (Int.toNat 12) by unfold ivF;rfl] at h
     refine za ?_
     exact zd [] h
    ·have hd:decide (su w)=true:=decide_eq_true (.inr (.inr h0))
     have h:=ht hd
     rw [show kyF w s=za2 (hB w) s [107,101,121] [] (Int.toNat 32) by unfold kyF aSz;rw [if_neg (by omega)];rfl,show ivF w s=za2 (hB w) s [105,118] [] (Int.toNat 12) by unfold ivF;rfl] at h
     refine za ?_
     exact zd [] h
    ·have hd:decide (su w)=false:=decide_eq_false (by unfold su;omega)
     have h:=hf hd
     refine za ?_
     exact zd [] h
   ·exact h.elim
attribute [local irreducible] kyF ivF
def zyb:Spec:=fun args hp K=>match args,hp with
  | [.int w,.str s],[]=>Pre (s.length≤140737488351232)
      (zx (decide (su w)) (K (.tup [.agg [.int w,.str (kyF w s),.str (ivF w s),.int 0,.bool true],.bool true]) []) (K (.tup [.agg [.int w,.str [],.str [],.int 0,.bool true],.bool false]) []))
  |_,_=>False
theorem z1t:zp prog 43 zyb:=by
  refine zm zfq (zc ybp zi) rfl func43 rfl call43 (D:=ykq) ?_ ?_
  ·intro args hp K h
   unfold zyb at h
   split at h
   ·exact Nat.le_of_ble_eq_true rfl
   ·exact h.elim
  ·intro args hp K h
   unfold zyb at h
   split at h
   ·rename_i w s
    obtain ⟨hs,h⟩:=zn h
    obtain ⟨ht,hf⟩:=zw h
    generalize e:decide (su w)=c at ht hf
    cases c
    ·have h:=hf rfl
     refine za ?_
     exact zd [] h
    ·have h:=ht rfl
     refine za ?_
     exact zd [] h
   ·exact h.elim
end Go.Sym.Z

namespace Go.Sym.Z
open Go Go.Proofs.Tryz Go.Sym.Lp Go.Sym.Cha Go.Sym.Sha Go.Sym.Hk
set_option maxRecDepth 100000
attribute [local irreducible] za2 exF kyF ivF
def yk1:List (Nat×List PStep):= [(3,[⟨0,[]⟩,⟨1,[0]⟩,⟨2,[0]⟩,⟨3,[0]⟩,⟨4,[0]⟩,⟨5,[]⟩,⟨6,[]⟩,⟨7,[0,1,2,3,4,5,6]⟩,⟨8,[0,1,2,3,4,5,6]⟩,⟨9,[0,1,2,3,4,5,6]⟩,⟨10,[0,1,2,3,4,5,6]⟩,⟨11,[]⟩,⟨12,[0,1,2,3,4,5,6,7,8,9,10,11]⟩,⟨13,[0,1,2,3,4,5,6,7,8,9,10,11]⟩,⟨14,[0,1,2,3,4,5,6,7,8,9,10,11]⟩,⟨15,[0,1,2,3,4,5,6,7,8,9,10,11]⟩,⟨16,[]⟩,⟨17,[]⟩,⟨18,[]⟩])]
def ylf:List (Nat×List PStep):= [(1,[⟨0,[]⟩,⟨1,[]⟩,⟨2,[]⟩,⟨3,[]⟩,⟨6,[0,1,2,3]⟩,⟨4,[0,1,2,3,6]⟩,⟨5,[6]⟩,⟨7,[0,1,2,3,5]⟩,⟨8,[]⟩,⟨9,[]⟩])]
def yj1:List (Nat×List PStep):= []
def yji:List (Nat×List PStep):= []
def ylh:List (Nat×List PStep):= []
def ykx:List (Nat×List PStep):= []
def yld:List (Nat×List PStep):= []
def ylm:List (Nat×List PStep):= []
def yk8:List (Nat×List PStep):= []
def ykd:List (Nat×List PStep):= []
def hdF (kind n:Int):List UInt8:= [UInt8.ofInt kind,3,3,UInt8.ofInt (n/ 2^8),UInt8.ofInt n]
def zyp:Spec:=fun args hp K=>match args,hp with
  | [.int kind,.int n],[]=>K (.str (hdF kind n)) []
  |_,_=>False
theorem yb8:zp prog 64 zyp:=by
  refine zm y6 (zc zpj zi) rfl func64 rfl call64 (D:=ylf) ?_ ?_
  ·intro args hp K h
   unfold zyp at h
   split at h
   ·exact Nat.le_of_ble_eq_true rfl
   ·exact h.elim
  ·intro args hp K h
   unfold zyp at h
   split at h
   ·rename_i kind n
    refine za ?_
    rw [zex,if_neg (by decide)]
    refine za ?_
    rw [if_neg (by decide)]
    refine za ?_
    conv=>whnf
    exact zd [] h
   ·exact h.elim
def zjf:Spec:=fun args hp K=>match args,hp with
  | [.int p],[]=>K (.tup [.agg [.int p,.nilptr],.bool (decide (0≤p∧p≤16384))]) []
  |_,_=>False
theorem zxf:zp prog 40 zjf:=by
  refine zm y6 zi rfl func40 rfl call40 (D:=yj1) ?_ ?_
  ·intro args hp K h
   unfold zjf at h
   split at h
   ·exact Nat.le_of_ble_eq_true rfl
   ·exact h.elim
  ·intro args hp K h
   unfold zjf at h
   split at h
   ·rename_i p
    by_cases h1:0≤p
    ·by_cases h2:p≤16384
     ·have d2:decide (p≤16384)=true:=decide_eq_true h2
      rw [decide_eq_true ⟨h1,h2⟩] at h
      refine za ?_
      rw [d2]
      conv=>whnf
      exact zd [] h
     ·have d2:decide (p≤16384)=false:=decide_eq_false h2
      rw [decide_eq_false fun hh=>h2 hh.2] at h
      refine za ?_
      rw [d2]
      conv=>whnf
      exact zd [] h
    ·rw [decide_eq_false fun hh=>h1 hh.1] at h
     refine za ?_
     exact zd [] h
   ·exact h.elim
def z0d:Spec:=fun args hp K=>match args,hp with
  | [.int p],[]=>zx (decide (0≤p∧p≤16384)) (K (.tup [.ptr 0 0 0 [],.int 0]) [.mk 74 [.int p,.nilptr,.nilptr,.str [],.int (-1)]]) (K (.tup [.nilptr,.int 2100]) [])
  |_,_=>False
theorem z82:zp prog 10 z0d:=by
  refine zm y6 (zc zxf zi) rfl func10 rfl call10 (D:=yji) ?_ ?_
  ·intro args hp K h
   unfold z0d at h
   split at h
   ·exact Nat.le_of_ble_eq_true rfl
   ·exact h.elim
  ·intro args hp K h
   unfold z0d at h
   split at h
   ·rename_i p
    obtain ⟨ht,hf⟩:=zw h
    generalize e:decide (0≤p∧p≤16384)=c at ht hf
    cases c
    ·have h:=hf rfl
     repeat ((conv=>whnf);first|refine zq ?_|refine zg ?_|refine zf ?_|refine zb ?_|refine zr (by first|exact e|(rw [e];rfl)) ?_|refine zj (by first|exact e|(rw [e];rfl)) ?_|refine zk (by first|exact e|(rw [e];rfl)) ?_)
     conv=>whnf
     exact zd [] h
    ·have h:=ht rfl
     repeat ((conv=>whnf);first|refine zq ?_|refine zg ?_|refine zf ?_|refine zb ?_|refine zr (by first|exact e|(rw [e];rfl)) ?_|refine zj (by first|exact e|(rw [e];rfl)) ?_|refine zk (by first|exact e|(rw [e];rfl)) ?_)
     conv=>whnf
     conv=>whnf
     exact zd [1] h
   ·exact h.elim
def zuo:Spec:=fun args hp K=>match args,hp with
  | [.ptr 0 0 0 [],.str s],[.mk t0 [.int p,.nilptr,.nilptr,.str held,.int f]]=>Pre (held.length+s.length<9223372036854775808) (K (.tup []) [.mk t0 [.int p,.nilptr,.nilptr,.str (held++s),.int f]])
  | [.ptr 0 0 0 [],.str s],[.mk t0 [.int p,.ptr 1 0 0 [],.nilptr,.str held,.int f],.mk tka [.int aw,.str akey,.str aiv,.int am]]=>Pre (held.length+s.length<9223372036854775808) (K (.tup []) [.mk t0 [.int p,.ptr 1 0 0 [],.nilptr,.str (held++s),.int f],.mk tka [.int aw,.str akey,.str aiv,.int am]])
  | [.ptr 0 0 0 [],.str s],[.mk t0 [.int p,.nilptr,.ptr 1 0 0 [],.str held,.int f],.mk tkb [.int bw,.str bkey,.str biv,.int bm]]=>Pre (held.length+s.length<9223372036854775808) (K (.tup []) [.mk t0 [.int p,.nilptr,.ptr 1 0 0 [],.str (held++s),.int f],.mk tkb [.int bw,.str bkey,.str biv,.int bm]])
  | [.ptr 0 0 0 [],.str s],[.mk t0 [.int p,.ptr 1 0 0 [],.ptr 2 0 0 [],.str held,.int f],.mk tka [.int aw,.str akey,.str aiv,.int am],.mk tkb [.int bw,.str bkey,.str biv,.int bm]]=>Pre (held.length+s.length<9223372036854775808) (K (.tup []) [.mk t0 [.int p,.ptr 1 0 0 [],.ptr 2 0 0 [],.str (held++s),.int f],.mk tka [.int aw,.str akey,.str aiv,.int am],.mk tkb [.int bw,.str bkey,.str biv,.int bm]])
  |_,_=>False
set_option maxHeartbeats 4000000 in
theorem z00:zp prog 14 zuo:=by
  refine zm y6 zi rfl func14 rfl call14 (D:=ylh) ?_ ?_
  ·intro args hp K h
   unfold zuo at h
   split at h
   ·exact Nat.le_of_ble_eq_true rfl
   ·exact Nat.le_of_ble_eq_true rfl
   ·exact Nat.le_of_ble_eq_true rfl
   ·exact Nat.le_of_ble_eq_true rfl
   ·exact h.elim
  ·intro args hp K h
   unfold zuo at h
   split at h
   ·rename_i s t0 p held f
    obtain ⟨hl,h⟩:=zn h
    refine za ?_
    exact zd [0] h
   ·rename_i s t0 p held f tka aw akey aiv am
    obtain ⟨hl,h⟩:=zn h
    refine za ?_
    exact zd [0,1] h
   ·rename_i s t0 p held f tkb bw bkey biv bm
    obtain ⟨hl,h⟩:=zn h
    refine za ?_
    exact zd [0,1] h
   ·rename_i s t0 p held f tka aw akey aiv am tkb bw bkey biv bm
    obtain ⟨hl,h⟩:=zn h
    refine za ?_
    exact zd [0,1,2] h
   ·exact h.elim
def zyc:Spec:=fun args hp K=>match args,hp with
  | [.ptr 0 0 0 []],[.mk t0 [.int p,.nilptr,.nilptr,.str held,.int f]]=>K (.int 0) [.mk t0 [.int p,.nilptr,.nilptr,.str held,.int f]]
  | [.ptr 0 0 0 []],[.mk t0 [.int p,.ptr 1 0 0 [],.nilptr,.str held,.int f],.mk tka [.int aw,.str akey,.str aiv,.int am]]=>K (.int am) [.mk t0 [.int p,.ptr 1 0 0 [],.nilptr,.str held,.int f],.mk tka [.int aw,.str akey,.str aiv,.int am]]
  | [.ptr 0 0 0 []],[.mk t0 [.int p,.nilptr,.ptr 1 0 0 [],.str held,.int f],.mk tkb [.int bw,.str bkey,.str biv,.int bm]]=>K (.int 0) [.mk t0 [.int p,.nilptr,.ptr 1 0 0 [],.str held,.int f],.mk tkb [.int bw,.str bkey,.str biv,.int bm]]
  | [.ptr 0 0 0 []],[.mk t0 [.int p,.ptr 1 0 0 [],.ptr 2 0 0 [],.str held,.int f],.mk tka [.int aw,.str akey,.str aiv,.int am],.mk tkb [.int bw,.str bkey,.str biv,.int bm]]=>K (.int am) [.mk t0 [.int p,.ptr 1 0 0 [],.ptr 2 0 0 [],.str held,.int f],.mk tka [.int aw,.str akey,.str aiv,.int am],.mk tkb [.int bw,.str bkey,.str biv,.int bm]]
  |_,_=>False
set_option maxHeartbeats 4000000 in
theorem yco:zp prog 52 zyc:=by
  refine zm y6 zi rfl func52 rfl call52 (D:=yk8) ?_ ?_
  ·intro args hp K h
   unfold zyc at h
   split at h
   ·exact Nat.le_of_ble_eq_true rfl
   ·exact Nat.le_of_ble_eq_true rfl
   ·exact Nat.le_of_ble_eq_true rfl
   ·exact Nat.le_of_ble_eq_true rfl
   ·exact h.elim
  ·intro args hp K h
   unfold zyc at h
   split at h
   ·rename_i t0 p held f
    refine za ?_
    exact zd [0] h
   ·rename_i t0 p held f tka aw akey aiv am
    refine za ?_
    exact zd [0,1] h
   ·rename_i t0 p held f tkb bw bkey biv bm
    refine za ?_
    exact zd [0,1] h
   ·rename_i t0 p held f tka aw akey aiv am tkb bw bkey biv bm
    refine za ?_
    exact zd [0,1,2] h
   ·exact h.elim
def zsr:Spec:=fun args hp K=>match args,hp with
  | [.ptr 0 0 0 []],[.mk t0 [.int p,.nilptr,.nilptr,.str held,.int f]]=>K (.int 0) [.mk t0 [.int p,.nilptr,.nilptr,.str held,.int f]]
  | [.ptr 0 0 0 []],[.mk t0 [.int p,.ptr 1 0 0 [],.nilptr,.str held,.int f],.mk tka [.int aw,.str akey,.str aiv,.int am]]=>K (.int am) [.mk t0 [.int p,.ptr 1 0 0 [],.nilptr,.str held,.int f],.mk tka [.int aw,.str akey,.str aiv,.int am]]
  | [.ptr 0 0 0 []],[.mk t0 [.int p,.nilptr,.ptr 1 0 0 [],.str held,.int f],.mk tkb [.int bw,.str bkey,.str biv,.int bm]]=>K (.int 0) [.mk t0 [.int p,.nilptr,.ptr 1 0 0 [],.str held,.int f],.mk tkb [.int bw,.str bkey,.str biv,.int bm]]
  | [.ptr 0 0 0 []],[.mk t0 [.int p,.ptr 1 0 0 [],.ptr 2 0 0 [],.str held,.int f],.mk tka [.int aw,.str akey,.str aiv,.int am],.mk tkb [.int bw,.str bkey,.str biv,.int bm]]=>K (.int am) [.mk t0 [.int p,.ptr 1 0 0 [],.ptr 2 0 0 [],.str held,.int f],.mk tka [.int aw,.str akey,.str aiv,.int am],.mk tkb [.int bw,.str bkey,.str biv,.int bm]]
  |_,_=>False
set_option maxHeartbeats 4000000 in
theorem z0i:zp prog 24 zsr:=by
  refine zm y6 (zc yco zi) rfl func24 rfl call24 (D:=ykd) ?_ ?_
  ·intro args hp K h
   unfold zsr at h
   split at h
   ·exact Nat.le_of_ble_eq_true rfl
   ·exact Nat.le_of_ble_eq_true rfl
   ·exact Nat.le_of_ble_eq_true rfl
   ·exact Nat.le_of_ble_eq_true rfl
   ·exact h.elim
  ·intro args hp K h
   unfold zsr at h
   split at h
   ·rename_i t0 p held f
    refine za ?_
    exact zd [0] h
   ·rename_i t0 p held f tka aw akey aiv am
    refine za ?_
    exact zd [0,1] h
   ·rename_i t0 p held f tkb bw bkey biv bm
    refine za ?_
    exact zd [0,1] h
   ·rename_i t0 p held f tka aw akey aiv am tkb bw bkey biv bm
    refine za ?_
    exact zd [0,1,2] h
   ·exact h.elim
def zm1:Spec:=fun args hp K=>match args,hp with
  | [.ptr 0 0 0 [],.int w,.str s],[.mk t0 [.int p,.nilptr,.nilptr,.str held,.int f]]=>Pre (s.length≤140737488351232) (zx (decide (su w)) (K (.int 0) [.mk t0 [.int p,.nilptr,.ptr 1 0 0 [],.str held,.int f],.mk 103 [.int w,.str (kyF w s),.str (ivF w s),.int 0]]) (K (.int 2100) [.mk t0 [.int p,.nilptr,.nilptr,.str held,.int f]]))
  | [.ptr 0 0 0 [],.int w,.str s],[.mk t0 [.int p,.ptr 1 0 0 [],.nilptr,.str held,.int f],.mk tka [.int aw,.str akey,.str aiv,.int am]]=>Pre (s.length≤140737488351232) (zx (decide (su w)) (K (.int 0) [.mk t0 [.int p,.ptr 1 0 0 [],.ptr 2 0 0 [],.str held,.int f],.mk tka [.int aw,.str akey,.str aiv,.int am],.mk 103 [.int w,.str (kyF w s),.str (ivF w s),.int 0]]) (K (.int 2100) [.mk t0 [.int p,.ptr 1 0 0 [],.nilptr,.str held,.int f],.mk tka [.int aw,.str akey,.str aiv,.int am]]))
  | [.ptr 0 0 0 [],.int w,.str s],[.mk t0 [.int p,.nilptr,.ptr 1 0 0 [],.str held,.int f],.mk tkb [.int bw,.str bkey,.str biv,.int bm]]=>Pre (s.length≤140737488351232) (zx (decide (su w)) (K (.int 0) [.mk t0 [.int p,.nilptr,.ptr 2 0 0 [],.str held,.int f],.mk tkb [.int bw,.str bkey,.str biv,.int bm],.mk 103 [.int w,.str (kyF w s),.str (ivF w s),.int 0]]) (K (.int 2100) [.mk t0 [.int p,.nilptr,.ptr 1 0 0 [],.str held,.int f],.mk tkb [.int bw,.str bkey,.str biv,.int bm]]))
  | [.ptr 0 0 0 [],.int w,.str s],[.mk t0 [.int p,.ptr 1 0 0 [],.ptr 2 0 0 [],.str held,.int f],.mk tka [.int aw,.str akey,.str aiv,.int am],.mk tkb [.int bw,.str bkey,.str biv,.int bm]]=>Pre (s.length≤140737488351232) (zx (decide (su w)) (K (.int 0) [.mk t0 [.int p,.ptr 1 0 0 [],.ptr 3 0 0 [],.str held,.int f],.mk tka [.int aw,.str akey,.str aiv,.int am],.mk tkb [.int bw,.str bkey,.str biv,.int bm],.mk 103 [.int w,.str (kyF w s),.str (ivF w s),.int 0]]) (K (.int 2100) [.mk t0 [.int p,.ptr 1 0 0 [],.ptr 2 0 0 [],.str held,.int f],.mk tka [.int aw,.str akey,.str aiv,.int am],.mk tkb [.int bw,.str bkey,.str biv,.int bm]]))
  |_,_=>False
set_option maxHeartbeats 4000000 in
theorem zvg:zp prog 16 zm1:=by
  refine zm y6 (zc zq2 zi) rfl func16 rfl call16 (D:=ykx) ?_ ?_
  ·intro args hp K h
   unfold zm1 at h
   split at h
   ·exact Nat.le_of_ble_eq_true rfl
   ·exact Nat.le_of_ble_eq_true rfl
   ·exact Nat.le_of_ble_eq_true rfl
   ·exact Nat.le_of_ble_eq_true rfl
   ·exact h.elim
  ·intro args hp K h
   unfold zm1 at h
   split at h
   ·rename_i w s t0 p held f
    obtain ⟨hl,h⟩:=zn h
    obtain ⟨ht,hf⟩:=zw h
    generalize e:decide (su w)=c at ht hf
    cases c
    ·have h:=hf rfl
     refine za ?_
     exact zd [0] h
    ·have h:=ht rfl
     refine za ?_
     exact zd [0,1] h
   ·rename_i w s t0 p held f tka aw akey aiv am
    obtain ⟨hl,h⟩:=zn h
    obtain ⟨ht,hf⟩:=zw h
    generalize e:decide (su w)=c at ht hf
    cases c
    ·have h:=hf rfl
     refine za ?_
     exact zd [0,1] h
    ·have h:=ht rfl
     refine za ?_
     exact zd [0,1,2] h
   ·rename_i w s t0 p held f tkb bw bkey biv bm
    obtain ⟨hl,h⟩:=zn h
    obtain ⟨ht,hf⟩:=zw h
    generalize e:decide (su w)=c at ht hf
    cases c
    ·have h:=hf rfl
     refine za ?_
     exact zd [0,1] h
    ·have h:=ht rfl
     refine za ?_
     exact zd [0,1,2] h
   ·rename_i w s t0 p held f tka aw akey aiv am tkb bw bkey biv bm
    obtain ⟨hl,h⟩:=zn h
    obtain ⟨ht,hf⟩:=zw h
    generalize e:decide (su w)=c at ht hf
    cases c
    ·have h:=hf rfl
     refine za ?_
     exact zd [0,1,2] h
    ·have h:=ht rfl
     refine za ?_
     exact zd [0,1,2,3] h
   ·exact h.elim
def zpx:Spec:=fun args hp K=>match args,hp with
  | [.ptr 0 0 0 [],.int w,.str s],[.mk t0 [.int p,.nilptr,.nilptr,.str held,.int f]]=>Pre (s.length≤140737488351232) (zx (decide (su w)) (K (.int 0) [.mk t0 [.int p,.ptr 1 0 0 [],.nilptr,.str held,.int f],.mk 103 [.int w,.str (kyF w s),.str (ivF w s),.int 0]]) (K (.int 2100) [.mk t0 [.int p,.nilptr,.nilptr,.str held,.int f]]))
  | [.ptr 0 0 0 [],.int w,.str s],[.mk t0 [.int p,.ptr 1 0 0 [],.nilptr,.str held,.int f],.mk tka [.int aw,.str akey,.str aiv,.int am]]=>Pre (s.length≤140737488351232) (zx (decide (su w)) (K (.int 0) [.mk t0 [.int p,.ptr 2 0 0 [],.nilptr,.str held,.int f],.mk tka [.int aw,.str akey,.str aiv,.int am],.mk 103 [.int w,.str (kyF w s),.str (ivF w s),.int 0]]) (K (.int 2100) [.mk t0 [.int p,.ptr 1 0 0 [],.nilptr,.str held,.int f],.mk tka [.int aw,.str akey,.str aiv,.int am]]))
  | [.ptr 0 0 0 [],.int w,.str s],[.mk t0 [.int p,.nilptr,.ptr 1 0 0 [],.str held,.int f],.mk tkb [.int bw,.str bkey,.str biv,.int bm]]=>Pre (s.length≤140737488351232) (zx (decide (su w)) (K (.int 0) [.mk t0 [.int p,.ptr 2 0 0 [],.ptr 1 0 0 [],.str held,.int f],.mk tkb [.int bw,.str bkey,.str biv,.int bm],.mk 103 [.int w,.str (kyF w s),.str (ivF w s),.int 0]]) (K (.int 2100) [.mk t0 [.int p,.nilptr,.ptr 1 0 0 [],.str held,.int f],.mk tkb [.int bw,.str bkey,.str biv,.int bm]]))
  | [.ptr 0 0 0 [],.int w,.str s],[.mk t0 [.int p,.ptr 1 0 0 [],.ptr 2 0 0 [],.str held,.int f],.mk tka [.int aw,.str akey,.str aiv,.int am],.mk tkb [.int bw,.str bkey,.str biv,.int bm]]=>Pre (s.length≤140737488351232) (zx (decide (su w)) (K (.int 0) [.mk t0 [.int p,.ptr 3 0 0 [],.ptr 2 0 0 [],.str held,.int f],.mk tka [.int aw,.str akey,.str aiv,.int am],.mk tkb [.int bw,.str bkey,.str biv,.int bm],.mk 103 [.int w,.str (kyF w s),.str (ivF w s),.int 0]]) (K (.int 2100) [.mk t0 [.int p,.ptr 1 0 0 [],.ptr 2 0 0 [],.str held,.int f],.mk tka [.int aw,.str akey,.str aiv,.int am],.mk tkb [.int bw,.str bkey,.str biv,.int bm]]))
  |_,_=>False
set_option maxHeartbeats 4000000 in
theorem z3e:zp prog 44 zpx:=by
  refine zm y6 (zc zq2 zi) rfl func44 rfl call44 (D:=yld) ?_ ?_
  ·intro args hp K h
   unfold zpx at h
   split at h
   ·exact Nat.le_of_ble_eq_true rfl
   ·exact Nat.le_of_ble_eq_true rfl
   ·exact Nat.le_of_ble_eq_true rfl
   ·exact Nat.le_of_ble_eq_true rfl
   ·exact h.elim
  ·intro args hp K h
   unfold zpx at h
   split at h
   ·rename_i w s t0 p held f
    obtain ⟨hl,h⟩:=zn h
    obtain ⟨ht,hf⟩:=zw h
    generalize e:decide (su w)=c at ht hf
    cases c
    ·have h:=hf rfl
     refine za ?_
     exact zd [0] h
    ·have h:=ht rfl
     refine za ?_
     exact zd [0,1] h
   ·rename_i w s t0 p held f tka aw akey aiv am
    obtain ⟨hl,h⟩:=zn h
    obtain ⟨ht,hf⟩:=zw h
    generalize e:decide (su w)=c at ht hf
    cases c
    ·have h:=hf rfl
     refine za ?_
     exact zd [0,1] h
    ·have h:=ht rfl
     refine za ?_
     exact zd [0,1,2] h
   ·rename_i w s t0 p held f tkb bw bkey biv bm
    obtain ⟨hl,h⟩:=zn h
    obtain ⟨ht,hf⟩:=zw h
    generalize e:decide (su w)=c at ht hf
    cases c
    ·have h:=hf rfl
     refine za ?_
     exact zd [0,1] h
    ·have h:=ht rfl
     refine za ?_
     exact zd [0,1,2] h
   ·rename_i w s t0 p held f tka aw akey aiv am tkb bw bkey biv bm
    obtain ⟨hl,h⟩:=zn h
    obtain ⟨ht,hf⟩:=zw h
    generalize e:decide (su w)=c at ht hf
    cases c
    ·have h:=hf rfl
     refine za ?_
     exact zd [0,1,2] h
    ·have h:=ht rfl
     refine za ?_
     exact zd [0,1,2,3] h
   ·exact h.elim
def zj1:Spec:=fun args hp K=>match args,hp with
  | [.ptr 0 0 0 [],.int w,.str s],[.mk t0 [.int p,.nilptr,.nilptr,.str held,.int f]]=>Pre (s.length≤140737488351232) (zx (decide (su w)) (K (.int 0) [.mk t0 [.int p,.ptr 1 0 0 [],.nilptr,.str held,.int f],.mk 103 [.int w,.str (kyF w s),.str (ivF w s),.int 0]]) (K (.int 2100) [.mk t0 [.int p,.nilptr,.nilptr,.str held,.int f]]))
  | [.ptr 0 0 0 [],.int w,.str s],[.mk t0 [.int p,.ptr 1 0 0 [],.nilptr,.str held,.int f],.mk tka [.int aw,.str akey,.str aiv,.int am]]=>Pre (s.length≤140737488351232) (zx (decide (su w)) (K (.int 0) [.mk t0 [.int p,.ptr 2 0 0 [],.nilptr,.str held,.int f],.mk tka [.int aw,.str akey,.str aiv,.int am],.mk 103 [.int w,.str (kyF w s),.str (ivF w s),.int 0]]) (K (.int 2100) [.mk t0 [.int p,.ptr 1 0 0 [],.nilptr,.str held,.int f],.mk tka [.int aw,.str akey,.str aiv,.int am]]))
  | [.ptr 0 0 0 [],.int w,.str s],[.mk t0 [.int p,.nilptr,.ptr 1 0 0 [],.str held,.int f],.mk tkb [.int bw,.str bkey,.str biv,.int bm]]=>Pre (s.length≤140737488351232) (zx (decide (su w)) (K (.int 0) [.mk t0 [.int p,.ptr 2 0 0 [],.ptr 1 0 0 [],.str held,.int f],.mk tkb [.int bw,.str bkey,.str biv,.int bm],.mk 103 [.int w,.str (kyF w s),.str (ivF w s),.int 0]]) (K (.int 2100) [.mk t0 [.int p,.nilptr,.ptr 1 0 0 [],.str held,.int f],.mk tkb [.int bw,.str bkey,.str biv,.int bm]]))
  | [.ptr 0 0 0 [],.int w,.str s],[.mk t0 [.int p,.ptr 1 0 0 [],.ptr 2 0 0 [],.str held,.int f],.mk tka [.int aw,.str akey,.str aiv,.int am],.mk tkb [.int bw,.str bkey,.str biv,.int bm]]=>Pre (s.length≤140737488351232) (zx (decide (su w)) (K (.int 0) [.mk t0 [.int p,.ptr 3 0 0 [],.ptr 2 0 0 [],.str held,.int f],.mk tka [.int aw,.str akey,.str aiv,.int am],.mk tkb [.int bw,.str bkey,.str biv,.int bm],.mk 103 [.int w,.str (kyF w s),.str (ivF w s),.int 0]]) (K (.int 2100) [.mk t0 [.int p,.ptr 1 0 0 [],.ptr 2 0 0 [],.str held,.int f],.mk tka [.int aw,.str akey,.str aiv,.int am],.mk tkb [.int bw,.str bkey,.str biv,.int bm]]))
  |_,_=>False
set_option maxHeartbeats 4000000 in
theorem zq1:zp prog 18 zj1:=by
  refine zm y6 (zc z3e zi) rfl func18 rfl call18 (D:=ylm) ?_ ?_
  ·intro args hp K h
   unfold zj1 at h
   split at h
   ·exact Nat.le_of_ble_eq_true rfl
   ·exact Nat.le_of_ble_eq_true rfl
   ·exact Nat.le_of_ble_eq_true rfl
   ·exact Nat.le_of_ble_eq_true rfl
   ·exact h.elim
  ·intro args hp K h
   unfold zj1 at h
   split at h
   ·rename_i w s t0 p held f
    obtain ⟨hl,h⟩:=zn h
    obtain ⟨ht,hf⟩:=zw h
    generalize e:decide (su w)=c at ht hf
    cases c
    ·have h:=hf rfl
     refine za ?_
     exact zd [0] h
    ·have h:=ht rfl
     refine za ?_
     exact zd [0,1] h
   ·rename_i w s t0 p held f tka aw akey aiv am
    obtain ⟨hl,h⟩:=zn h
    obtain ⟨ht,hf⟩:=zw h
    generalize e:decide (su w)=c at ht hf
    cases c
    ·have h:=hf rfl
     refine za ?_
     exact zd [0,1] h
    ·have h:=ht rfl
     refine za ?_
     exact zd [0,1,2] h
   ·rename_i w s t0 p held f tkb bw bkey biv bm
    obtain ⟨hl,h⟩:=zn h
    obtain ⟨ht,hf⟩:=zw h
    generalize e:decide (su w)=c at ht hf
    cases c
    ·have h:=hf rfl
     refine za ?_
     exact zd [0,1] h
    ·have h:=ht rfl
     refine za ?_
     exact zd [0,1,2] h
   ·rename_i w s t0 p held f tka aw akey aiv am tkb bw bkey biv bm
    obtain ⟨hl,h⟩:=zn h
    obtain ⟨ht,hf⟩:=zw h
    generalize e:decide (su w)=c at ht hf
    cases c
    ·have h:=hf rfl
     refine za ?_
     exact zd [0,1,2] h
    ·have h:=ht rfl
     refine za ?_
     exact zd [0,1,2,3] h
   ·exact h.elim
def inL (p n:Int):Int:=if 0<p then min ((n+1+p-1)/ p*p) 16385 else n+1
def zsx:Spec:=fun args hp K=>match args,hp with
  | [.ptr 0 0 0 [],.int n],[.mk t0 [.int p,.ptr 1 0 0 [],.nilptr,.str held,.int f],.mk tka [.int aw,.str akey,.str aiv,.int am]]=>Pre (0≤n∧n≤16384∧0≤p∧p≤16384) (K (.int (inL p n)) [.mk t0 [.int p,.ptr 1 0 0 [],.nilptr,.str held,.int f],.mk tka [.int aw,.str akey,.str aiv,.int am]])
  | [.ptr 0 0 0 [],.int n],[.mk t0 [.int p,.ptr 1 0 0 [],.ptr 2 0 0 [],.str held,.int f],.mk tka [.int aw,.str akey,.str aiv,.int am],.mk tkb [.int bw,.str bkey,.str biv,.int bm]]=>Pre (0≤n∧n≤16384∧0≤p∧p≤16384) (K (.int (inL p n)) [.mk t0 [.int p,.ptr 1 0 0 [],.ptr 2 0 0 [],.str held,.int f],.mk tka [.int aw,.str akey,.str aiv,.int am],.mk tkb [.int bw,.str bkey,.str biv,.int bm]])
  |_,_=>False
set_option maxHeartbeats 4000000 in
theorem z5p:zp prog 65 zsx:=by
  refine zm y6 zi rfl func65 rfl call65 (D:=yk1) ?_ ?_
  ·intro args hp K h
   unfold zsx at h
   split at h
   ·exact Nat.le_of_ble_eq_true rfl
   ·exact Nat.le_of_ble_eq_true rfl
   ·exact h.elim
  ·intro args hp K h
   unfold zsx at h
   split at h
   ·rename_i n t0 p held f tka aw akey aiv am
    obtain ⟨⟨hn0,hn1,hp0,hp1⟩,h⟩:=zn h
    by_cases h0:0<p
    ·have hq:(n+1+p-1).tdiv p=(n+1+p-1)/ p:=Int.tdiv_eq_ediv_of_nonneg (by omega)
     have hm1:=Int.ediv_mul_le (n+1+p-1) (show p≠0 by omega)
     have hm0:0≤(n+1+p-1)/ p:=Int.ediv_nonneg (by omega) (by omega)
     have hm2:0≤(n+1+p-1)/ p*p:=Int.mul_nonneg hm0 hp0
     have hm3:(n+1+p-1)/ p≤n+1+p-1:=Int.ediv_le_self _ (by omega)
     have hpd:p≠0∧ya ((n+1+p-1).tdiv p):=⟨by omega,by rw [hq];unfold ya;omega⟩
     have hpm:ya ((n+1+p-1).tdiv p*p):=by rw [hq];unfold ya;omega
     have hG:inL p n=min ((n+1+p-1).tdiv p*p) 16385:=by unfold inL;rw [if_pos h0,hq]
     rw [hG] at h
     refine za ?_
     exact zd [0,1] h
    ·have hG:inL p n=n+1:=by unfold inL;rw [if_neg h0]
     rw [hG] at h
     refine za ?_
     exact zd [0,1] h
   ·rename_i n t0 p held f tka aw akey aiv am tkb bw bkey biv bm
    obtain ⟨⟨hn0,hn1,hp0,hp1⟩,h⟩:=zn h
    by_cases h0:0<p
    ·have hq:(n+1+p-1).tdiv p=(n+1+p-1)/ p:=Int.tdiv_eq_ediv_of_nonneg (by omega)
     have hm1:=Int.ediv_mul_le (n+1+p-1) (show p≠0 by omega)
     have hm0:0≤(n+1+p-1)/ p:=Int.ediv_nonneg (by omega) (by omega)
     have hm2:0≤(n+1+p-1)/ p*p:=Int.mul_nonneg hm0 hp0
     have hm3:(n+1+p-1)/ p≤n+1+p-1:=Int.ediv_le_self _ (by omega)
     have hpd:p≠0∧ya ((n+1+p-1).tdiv p):=⟨by omega,by rw [hq];unfold ya;omega⟩
     have hpm:ya ((n+1+p-1).tdiv p*p):=by rw [hq];unfold ya;omega
     have hG:inL p n=min ((n+1+p-1).tdiv p*p) 16385:=by unfold inL;rw [if_pos h0,hq]
     rw [hG] at h
     refine za ?_
     exact zd [0,1,2] h
    ·have hG:inL p n=n+1:=by unfold inL;rw [if_neg h0]
     rw [hG] at h
     refine za ?_
     exact zd [0,1,2] h
   ·exact h.elim
end Go.Sym.Z
