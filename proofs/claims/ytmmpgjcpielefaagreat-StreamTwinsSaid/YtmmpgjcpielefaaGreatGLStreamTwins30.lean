/-
  Contracts of functions of the program, each said of symbolic values, and plain laws; no condition beyond each statement's own.
-/
import Derived.Test.YtmmpgjcpielefaaGreatGLStreamTwins29
import Derived.Test.YtmmpgjcpielefaaGreatGLStreamTwins27
import Derived.Test.YtmmpgjcpielefaaGreatGLStreamTwins17
set_option linter.unusedSimpArgs false
set_option linter.unusedVariables false
namespace Go.Sym.Z
open Go Go.Proofs.Tryz Go.Sym.Lp Go.Sym.Cha Go.Sym.Sha Go.Sym.Hk
set_option maxRecDepth 100000
attribute [local irreducible] zab exF kyF ivF yx xe yi inL ncF lnz iA hA hN hK
def ycw:List (Nat×List PStep):= [(3,[⟨0,[]⟩,⟨1,[]⟩,⟨2,[]⟩,⟨3,[]⟩,⟨4,[0,1,2,3]⟩,⟨5,[0,1,2,3]⟩,⟨6,[0,1,2,3]⟩,⟨7,[0,1,2,3]⟩,⟨8,[0,1,2,3]⟩,⟨9,[]⟩,⟨10,[]⟩,⟨11,[]⟩,⟨12,[11]⟩,⟨13,[11,12]⟩,⟨14,[12,13]⟩,⟨15,[13]⟩,⟨16,[]⟩]),(6,[⟨0,[]⟩,⟨1,[0]⟩,⟨2,[0]⟩,⟨3,[0]⟩,⟨4,[0]⟩,⟨5,[0]⟩,⟨6,[0,1,2,3,4,5]⟩,⟨7,[0,1,2,3,4,5,6]⟩,⟨8,[0,1,2,3,4,5,6]⟩,⟨9,[0,1,2,3,4,5,6]⟩,⟨10,[0,1,2,3,4,5,6]⟩,⟨11,[0,1,2,3,4,5,6,7,8,9,10]⟩,⟨12,[0,1,2,3,4,5,6,7,8,9,10]⟩,⟨13,[0,1,2,3,4,5,6]⟩,⟨18,[0,1,2,3,4,5,6,7,8,9,10,11,12,13]⟩,⟨14,[18]⟩,⟨15,[18]⟩,⟨16,[18]⟩,⟨17,[18,16]⟩,⟨19,[17]⟩,⟨20,[]⟩])]
def ycs:List (Nat×List PStep):= [(4,[⟨0,[]⟩,⟨1,[0]⟩,⟨2,[0]⟩,⟨3,[0]⟩,⟨4,[0]⟩,⟨5,[1,2,3,4]⟩,⟨6,[1,2,3,4]⟩,⟨7,[]⟩])]
def hT (h:List UInt8):List UInt8:=(h.drop 5).take (hN h).toNat
def hR (h:List UInt8):List UInt8:=h.drop (5+(hN h).toNat)
def hP (w:Int) (key iv:List UInt8) (m:Int) (h:List UInt8):List UInt8:=yi w key (ncF iv m) ((hT h).take ((hT h).length-16))
def hO (w:Int) (key iv:List UInt8) (m:Int) (h:List UInt8):Prop:=16≤(hT h).length∧xe w key (ncF iv m) (h.take 5) ((hT h).take ((hT h).length-16))=(hT h).drop ((hT h).length-16)
instance (w:Int) (key iv:List UInt8) (m:Int) (h:List UInt8):Decidable (hO w key iv m h):=by unfold hO;exact inferInstance
theorem zli (h:List UInt8):0≤hN h∧hN h≤65535:=by
  unfold hN
  have b3:=(h.getD 3 0).toNat_lt
  have b4:=(h.getD 4 0).toNat_lt
  omega
theorem zoh {h:List UInt8} {b:Bool} (e:hA h b= -1):hN h≤16640:=by
  have hm:(if b=true∧hK h=23 then (16640:Int) else 16384)≤16640:=by split<;>decide
  by_cases h1:yu (hK h)
  ·by_cases h2:(if b=true∧hK h=23 then (16640:Int) else 16384)<hN h
   ·exfalso
    have e2:hA h b=22:=by unfold hA;rw [if_pos h1,if_pos h2]
    rw [e2] at e
    exact absurd e (by decide)
   ·omega
  ·exfalso
   have e2:hA h b=10:=by unfold hA;rw [if_neg h1]
   rw [e2] at e
   exact absurd e (by decide)
theorem zpf {h:List UInt8} (hl:5+hN h≤h.length):((hT h).length:Int)=hN h:=by
  have:=zli h
  unfold hT
  rw [List.length_take,List.length_drop]
  omega
theorem zwi {h:List UInt8} (n:Nat) (e:n=(hN h).toNat):List.take n (List.drop 5 h)=hT h:=by subst e;rfl
def zqb:Spec:=fun args hp K=>match args,hp with
  | [.ptr 0 0 0 []],[.mk t0 [.int p,.nilptr,.nilptr,.str held,.int f]]=>Pre (held.length<9223372036854775808) (zv (decide (held.length<5)) (K (.tup [.agg [.int 0,.str []],.bool false,.int (-1)]) [.mk t0 [.int p,.nilptr,.nilptr,.str held,.int f]]) (zv (decide (hA held false= -1)) (zv (decide ((held.length:Int)<5+hN held)) (K (.tup [.agg [.int 0,.str []],.bool false,.int (-1)]) [.mk t0 [.int p,.nilptr,.nilptr,.str held,.int f]]) (K (.tup [.agg [.int (hK held),.str (hT held)],.bool true,.int (-1)]) [.mk t0 [.int p,.nilptr,.nilptr,.str (hR held),.int f]])) (K (.tup [.agg [.int 0,.str []],.bool false,.int (hA held false)]) [.mk t0 [.int p,.nilptr,.nilptr,.str held,.int f]])))
  | [.ptr 0 0 0 []],[.mk t0 [.int p,.ptr 1 0 0 [],.nilptr,.str held,.int f],.mk tka [.int aw,.str akey,.str aiv,.int am]]=>Pre (held.length<9223372036854775808) (zv (decide (held.length<5)) (K (.tup [.agg [.int 0,.str []],.bool false,.int (-1)]) [.mk t0 [.int p,.ptr 1 0 0 [],.nilptr,.str held,.int f],.mk tka [.int aw,.str akey,.str aiv,.int am]]) (zv (decide (hA held false= -1)) (zv (decide ((held.length:Int)<5+hN held)) (K (.tup [.agg [.int 0,.str []],.bool false,.int (-1)]) [.mk t0 [.int p,.ptr 1 0 0 [],.nilptr,.str held,.int f],.mk tka [.int aw,.str akey,.str aiv,.int am]]) (K (.tup [.agg [.int (hK held),.str (hT held)],.bool true,.int (-1)]) [.mk t0 [.int p,.ptr 1 0 0 [],.nilptr,.str (hR held),.int f],.mk tka [.int aw,.str akey,.str aiv,.int am]])) (K (.tup [.agg [.int 0,.str []],.bool false,.int (hA held false)]) [.mk t0 [.int p,.ptr 1 0 0 [],.nilptr,.str held,.int f],.mk tka [.int aw,.str akey,.str aiv,.int am]])))
  | [.ptr 0 0 0 []],[.mk t0 [.int p,.nilptr,.ptr 1 0 0 [],.str held,.int f],.mk tkb [.int bw,.str bkey,.str biv,.int bm]]=>Pre (zcu bw bkey biv bm∧held.length<9223372036854775808) (zv (decide (held.length<5)) (K (.tup [.agg [.int 0,.str []],.bool false,.int (-1)]) [.mk t0 [.int p,.nilptr,.ptr 1 0 0 [],.str held,.int f],.mk tkb [.int bw,.str bkey,.str biv,.int bm]]) (zv (decide (hA held true= -1)) (zv (decide ((held.length:Int)<5+hN held)) (K (.tup [.agg [.int 0,.str []],.bool false,.int (-1)]) [.mk t0 [.int p,.nilptr,.ptr 1 0 0 [],.str held,.int f],.mk tkb [.int bw,.str bkey,.str biv,.int bm]]) (zv (decide (hK held=20)) (K (.tup [.agg [.int (hK held),.str (hT held)],.bool true,.int (-1)]) [.mk t0 [.int p,.nilptr,.ptr 1 0 0 [],.str (hR held),.int f],.mk tkb [.int bw,.str bkey,.str biv,.int bm]]) (zv (decide (hO bw bkey biv bm held)) (zv (decide (iA (hP bw bkey biv bm held)= -1)) (K (.tup [.agg [.int (iK (hP bw bkey biv bm held)),.str (((hP bw bkey biv bm held)).take (lnz (hP bw bkey biv bm held) (hP bw bkey biv bm held).length-1))],.bool true,.int (-1)]) [.mk t0 [.int p,.nilptr,.ptr 1 0 0 [],.str (hR held),.int f],.mk tkb [.int bw,.str bkey,.str biv,.int (bm+1)]]) (K (.tup [.agg [.int 0,.str []],.bool false,.int (iA (hP bw bkey biv bm held))]) [.mk t0 [.int p,.nilptr,.ptr 1 0 0 [],.str held,.int f],.mk tkb [.int bw,.str bkey,.str biv,.int (bm+1)]])) (K (.tup [.agg [.int 0,.str []],.bool false,.int 20]) [.mk t0 [.int p,.nilptr,.ptr 1 0 0 [],.str held,.int f],.mk tkb [.int bw,.str bkey,.str biv,.int bm]])))) (K (.tup [.agg [.int 0,.str []],.bool false,.int (hA held true)]) [.mk t0 [.int p,.nilptr,.ptr 1 0 0 [],.str held,.int f],.mk tkb [.int bw,.str bkey,.str biv,.int bm]])))
  | [.ptr 0 0 0 []],[.mk t0 [.int p,.ptr 1 0 0 [],.ptr 2 0 0 [],.str held,.int f],.mk tka [.int aw,.str akey,.str aiv,.int am],.mk tkb [.int bw,.str bkey,.str biv,.int bm]]=>Pre (zcu bw bkey biv bm∧held.length<9223372036854775808) (zv (decide (held.length<5)) (K (.tup [.agg [.int 0,.str []],.bool false,.int (-1)]) [.mk t0 [.int p,.ptr 1 0 0 [],.ptr 2 0 0 [],.str held,.int f],.mk tka [.int aw,.str akey,.str aiv,.int am],.mk tkb [.int bw,.str bkey,.str biv,.int bm]]) (zv (decide (hA held true= -1)) (zv (decide ((held.length:Int)<5+hN held)) (K (.tup [.agg [.int 0,.str []],.bool false,.int (-1)]) [.mk t0 [.int p,.ptr 1 0 0 [],.ptr 2 0 0 [],.str held,.int f],.mk tka [.int aw,.str akey,.str aiv,.int am],.mk tkb [.int bw,.str bkey,.str biv,.int bm]]) (zv (decide (hK held=20)) (K (.tup [.agg [.int (hK held),.str (hT held)],.bool true,.int (-1)]) [.mk t0 [.int p,.ptr 1 0 0 [],.ptr 2 0 0 [],.str (hR held),.int f],.mk tka [.int aw,.str akey,.str aiv,.int am],.mk tkb [.int bw,.str bkey,.str biv,.int bm]]) (zv (decide (hO bw bkey biv bm held)) (zv (decide (iA (hP bw bkey biv bm held)= -1)) (K (.tup [.agg [.int (iK (hP bw bkey biv bm held)),.str (((hP bw bkey biv bm held)).take (lnz (hP bw bkey biv bm held) (hP bw bkey biv bm held).length-1))],.bool true,.int (-1)]) [.mk t0 [.int p,.ptr 1 0 0 [],.ptr 2 0 0 [],.str (hR held),.int f],.mk tka [.int aw,.str akey,.str aiv,.int am],.mk tkb [.int bw,.str bkey,.str biv,.int (bm+1)]]) (K (.tup [.agg [.int 0,.str []],.bool false,.int (iA (hP bw bkey biv bm held))]) [.mk t0 [.int p,.ptr 1 0 0 [],.ptr 2 0 0 [],.str held,.int f],.mk tka [.int aw,.str akey,.str aiv,.int am],.mk tkb [.int bw,.str bkey,.str biv,.int (bm+1)]])) (K (.tup [.agg [.int 0,.str []],.bool false,.int 20]) [.mk t0 [.int p,.ptr 1 0 0 [],.ptr 2 0 0 [],.str held,.int f],.mk tka [.int aw,.str akey,.str aiv,.int am],.mk tkb [.int bw,.str bkey,.str biv,.int bm]])))) (K (.tup [.agg [.int 0,.str []],.bool false,.int (hA held true)]) [.mk t0 [.int p,.ptr 1 0 0 [],.ptr 2 0 0 [],.str held,.int f],.mk tka [.int aw,.str akey,.str aiv,.int am],.mk tkb [.int bw,.str bkey,.str biv,.int bm]])))
  |_,_=>False
set_option maxHeartbeats 4000000 in
theorem zzj:zp prog 48 zqb:=by
  refine zn yw (zd z1m (zd z47 zl)) rfl func48 rfl call48 (D:=ycw) ?_ ?_
  ·intro args hp K h
   unfold zqb at h
   split at h
   ·exact Nat.le_of_ble_eq_true rfl
   ·exact Nat.le_of_ble_eq_true rfl
   ·exact Nat.le_of_ble_eq_true rfl
   ·exact Nat.le_of_ble_eq_true rfl
   ·exact h.elim
  ·intro args hp K h
   unfold zqb at h
   split at h
   ·rename_i t0 p held f
    obtain ⟨hl,h⟩:=zm h
    obtain ⟨ht,hf⟩:=zt h
    by_cases h5:held.length<5
    ·have h:=ht (decide_eq_true h5)
     refine za ?_
     exact zh [0] h
    ·have h:=hf (decide_eq_false h5)
     have hp0:5≤held.length∧held.length<9223372036854775808:=⟨by omega,hl⟩
     have hnb:=zli held
     obtain ⟨ht,hf⟩:=zt h
     by_cases ha:hA held false= -1
     ·have e1:decide (hA held false= -1)=true:=decide_eq_true ha
      have h:=ht e1
      have hn16:=zoh ha
      obtain ⟨ht,hf⟩:=zt h
      by_cases hs:(held.length:Int)<5+hN held
      ·have h:=ht (decide_eq_true hs)
       refine za ?_
       exact zh [0] h
      ·have h:=hf (decide_eq_false hs)
       have hTl:=zpf (h:=held) (by omega)
       have hTe:List.take ((5+hN held).toNat-Int.toNat 5) (List.drop (Int.toNat 5) held)=hT held:=zwi _ (by show (5+hN held).toNat-5=_;omega)
       have hRe:List.drop (5+hN held).toNat held=hR held:=by unfold hR;congr 1;omega
       refine za ?_
       rw [hTe,hRe]
       conv=>whnf
       exact zh [0] h
     ·have e1:decide (hA held false= -1)=false:=decide_eq_false ha
      have h:=hf e1
      refine za ?_
      exact zh [0] h
   ·rename_i t0 p held f tka aw akey aiv am
    obtain ⟨hl,h⟩:=zm h
    obtain ⟨ht,hf⟩:=zt h
    by_cases h5:held.length<5
    ·have h:=ht (decide_eq_true h5)
     refine za ?_
     exact zh [0,1] h
    ·have h:=hf (decide_eq_false h5)
     have hp0:5≤held.length∧held.length<9223372036854775808:=⟨by omega,hl⟩
     have hnb:=zli held
     obtain ⟨ht,hf⟩:=zt h
     by_cases ha:hA held false= -1
     ·have e1:decide (hA held false= -1)=true:=decide_eq_true ha
      have h:=ht e1
      have hn16:=zoh ha
      obtain ⟨ht,hf⟩:=zt h
      by_cases hs:(held.length:Int)<5+hN held
      ·have h:=ht (decide_eq_true hs)
       refine za ?_
       exact zh [0,1] h
      ·have h:=hf (decide_eq_false hs)
       have hTl:=zpf (h:=held) (by omega)
       have hTe:List.take ((5+hN held).toNat-Int.toNat 5) (List.drop (Int.toNat 5) held)=hT held:=zwi _ (by show (5+hN held).toNat-5=_;omega)
       have hRe:List.drop (5+hN held).toNat held=hR held:=by unfold hR;congr 1;omega
       refine za ?_
       rw [hTe,hRe]
       conv=>whnf
       exact zh [0,1] h
     ·have e1:decide (hA held false= -1)=false:=decide_eq_false ha
      have h:=hf e1
      refine za ?_
      exact zh [0,1] h
   ·rename_i t0 p held f tkb bw bkey biv bm
    obtain ⟨⟨hok,hl⟩,h⟩:=zm h
    obtain ⟨ht,hf⟩:=zt h
    by_cases h5:held.length<5
    ·have h:=ht (decide_eq_true h5)
     refine za ?_
     exact zh [0,1] h
    ·have h:=hf (decide_eq_false h5)
     have hp0:5≤held.length∧held.length<9223372036854775808:=⟨by omega,hl⟩
     have hnb:=zli held
     obtain ⟨ht,hf⟩:=zt h
     by_cases ha:hA held true= -1
     ·have e1:decide (hA held true= -1)=true:=decide_eq_true ha
      have h:=ht e1
      have hn16:=zoh ha
      obtain ⟨ht,hf⟩:=zt h
      by_cases hs:(held.length:Int)<5+hN held
      ·have h:=ht (decide_eq_true hs)
       refine za ?_
       exact zh [0,1] h
      ·have h:=hf (decide_eq_false hs)
       have hTl:=zpf (h:=held) (by omega)
       have hTe:List.take ((5+hN held).toNat-Int.toNat 5) (List.drop (Int.toNat 5) held)=hT held:=zwi _ (by show (5+hN held).toNat-5=_;omega)
       have hRe:List.drop (5+hN held).toNat held=hR held:=by unfold hR;congr 1;omega
       have hpb:zcu bw bkey biv bm∧(List.take (Int.toNat 5) held).length≤100∧(hT held).length≤20000:=⟨hok,by rw [List.length_take];show min 5 _≤_;omega,by omega⟩
       obtain ⟨ht,hf⟩:=zt h
       by_cases hk:hK held=20
       ·have e2:=decide_eq_true hk
        have h:=ht e2
        refine za ?_
        rw [hTe]
        refine za ?_
        rw [hRe]
        conv=>whnf
        exact zh [0,1] h
       ·have e2:=decide_eq_false hk
        have h:=hf e2
        obtain ⟨ht,hf⟩:=zt h
        by_cases hop:hO bw bkey biv bm held
        ·have e3:decide (hO bw bkey biv bm held)=true:=decide_eq_true hop
         have h:=ht e3
         obtain ⟨ht,hf⟩:=zt h
         by_cases hia:iA (hP bw bkey biv bm held)= -1
         ·have e4:decide (iA (hP bw bkey biv bm held)= -1)=true:=decide_eq_true hia
          have e5:decide (iA (yi bw bkey (ncF biv bm) (List.take ((hT held).length-16) (hT held)))= -1)=true:=e4
          have h:=ht e4
          refine za ?_
          rw [hTe]
          repeat ((conv=>whnf);first|refine zo ?_|refine zf ?_|refine zg ?_|refine zb ?_|refine zi (by first|(rw [e5];rfl)) ?_|refine zj (by first|(rw [e5];rfl)) ?_)
          conv=>whnf
          rw [hRe]
          conv=>whnf
          exact zh [0,1] h
         ·have e4:decide (iA (hP bw bkey biv bm held)= -1)=false:=decide_eq_false hia
          have e5:decide (iA (yi bw bkey (ncF biv bm) (List.take ((hT held).length-16) (hT held)))= -1)=false:=e4
          have h:=hf e4
          refine za ?_
          rw [hTe]
          repeat ((conv=>whnf);first|refine zo ?_|refine zf ?_|refine zg ?_|refine zb ?_|refine zi (by first|(rw [e5];rfl)) ?_|refine zj (by first|(rw [e5];rfl)) ?_)
          conv=>whnf
          conv=>whnf
          exact zh [0,1] h
        ·have e3:decide (hO bw bkey biv bm held)=false:=decide_eq_false hop
         have h:=hf e3
         refine za ?_
         rw [hTe]
         refine za ?_
         conv=>whnf
         exact zh [0,1] h
     ·have e1:decide (hA held true= -1)=false:=decide_eq_false ha
      have h:=hf e1
      refine za ?_
      exact zh [0,1] h
   ·rename_i t0 p held f tka aw akey aiv am tkb bw bkey biv bm
    obtain ⟨⟨hok,hl⟩,h⟩:=zm h
    obtain ⟨ht,hf⟩:=zt h
    by_cases h5:held.length<5
    ·have h:=ht (decide_eq_true h5)
     refine za ?_
     exact zh [0,1,2] h
    ·have h:=hf (decide_eq_false h5)
     have hp0:5≤held.length∧held.length<9223372036854775808:=⟨by omega,hl⟩
     have hnb:=zli held
     obtain ⟨ht,hf⟩:=zt h
     by_cases ha:hA held true= -1
     ·have e1:decide (hA held true= -1)=true:=decide_eq_true ha
      have h:=ht e1
      have hn16:=zoh ha
      obtain ⟨ht,hf⟩:=zt h
      by_cases hs:(held.length:Int)<5+hN held
      ·have h:=ht (decide_eq_true hs)
       refine za ?_
       exact zh [0,1,2] h
      ·have h:=hf (decide_eq_false hs)
       have hTl:=zpf (h:=held) (by omega)
       have hTe:List.take ((5+hN held).toNat-Int.toNat 5) (List.drop (Int.toNat 5) held)=hT held:=zwi _ (by show (5+hN held).toNat-5=_;omega)
       have hRe:List.drop (5+hN held).toNat held=hR held:=by unfold hR;congr 1;omega
       have hpb:zcu bw bkey biv bm∧(List.take (Int.toNat 5) held).length≤100∧(hT held).length≤20000:=⟨hok,by rw [List.length_take];show min 5 _≤_;omega,by omega⟩
       obtain ⟨ht,hf⟩:=zt h
       by_cases hk:hK held=20
       ·have e2:=decide_eq_true hk
        have h:=ht e2
        refine za ?_
        rw [hTe]
        refine za ?_
        rw [hRe]
        conv=>whnf
        exact zh [0,1,2] h
       ·have e2:=decide_eq_false hk
        have h:=hf e2
        obtain ⟨ht,hf⟩:=zt h
        by_cases hop:hO bw bkey biv bm held
        ·have e3:decide (hO bw bkey biv bm held)=true:=decide_eq_true hop
         have h:=ht e3
         obtain ⟨ht,hf⟩:=zt h
         by_cases hia:iA (hP bw bkey biv bm held)= -1
         ·have e4:decide (iA (hP bw bkey biv bm held)= -1)=true:=decide_eq_true hia
          have e5:decide (iA (yi bw bkey (ncF biv bm) (List.take ((hT held).length-16) (hT held)))= -1)=true:=e4
          have h:=ht e4
          refine za ?_
          rw [hTe]
          repeat ((conv=>whnf);first|refine zo ?_|refine zf ?_|refine zg ?_|refine zb ?_|refine zi (by first|(rw [e5];rfl)) ?_|refine zj (by first|(rw [e5];rfl)) ?_)
          conv=>whnf
          rw [hRe]
          conv=>whnf
          exact zh [0,1,2] h
         ·have e4:decide (iA (hP bw bkey biv bm held)= -1)=false:=decide_eq_false hia
          have e5:decide (iA (yi bw bkey (ncF biv bm) (List.take ((hT held).length-16) (hT held)))= -1)=false:=e4
          have h:=hf e4
          refine za ?_
          rw [hTe]
          repeat ((conv=>whnf);first|refine zo ?_|refine zf ?_|refine zg ?_|refine zb ?_|refine zi (by first|(rw [e5];rfl)) ?_|refine zj (by first|(rw [e5];rfl)) ?_)
          conv=>whnf
          conv=>whnf
          exact zh [0,1,2] h
        ·have e3:decide (hO bw bkey biv bm held)=false:=decide_eq_false hop
         have h:=hf e3
         refine za ?_
         rw [hTe]
         refine za ?_
         conv=>whnf
         exact zh [0,1,2] h
     ·have e1:decide (hA held true= -1)=false:=decide_eq_false ha
      have h:=hf e1
      refine za ?_
      exact zh [0,1,2] h
   ·exact h.elim
def zpq:Spec:=fun args hp K=>match args,hp with
  | [.ptr 0 0 0 []],[.mk t0 [.int p,.nilptr,.nilptr,.str held,.int f]]=>Pre (held.length<9223372036854775808) (zv (decide (f= -1)) (zv (decide (held.length<5)) (K (.tup [.agg [.int 0,.str []],.bool false,.int (-1)]) [.mk t0 [.int p,.nilptr,.nilptr,.str held,.int (-1)]]) (zv (decide (hA held false= -1)) (zv (decide ((held.length:Int)<5+hN held)) (K (.tup [.agg [.int 0,.str []],.bool false,.int (-1)]) [.mk t0 [.int p,.nilptr,.nilptr,.str held,.int (-1)]]) (K (.tup [.agg [.int (hK held),.str (hT held)],.bool true,.int (-1)]) [.mk t0 [.int p,.nilptr,.nilptr,.str (hR held),.int (-1)]])) (K (.tup [.agg [.int 0,.str []],.bool false,.int (hA held false)]) [.mk t0 [.int p,.nilptr,.nilptr,.str held,.int (hA held false)]]))) (K (.tup [.agg [.int 0,.str []],.bool false,.int f]) [.mk t0 [.int p,.nilptr,.nilptr,.str held,.int f]]))
  | [.ptr 0 0 0 []],[.mk t0 [.int p,.ptr 1 0 0 [],.nilptr,.str held,.int f],.mk tka [.int aw,.str akey,.str aiv,.int am]]=>Pre (held.length<9223372036854775808) (zv (decide (f= -1)) (zv (decide (held.length<5)) (K (.tup [.agg [.int 0,.str []],.bool false,.int (-1)]) [.mk t0 [.int p,.ptr 1 0 0 [],.nilptr,.str held,.int (-1)],.mk tka [.int aw,.str akey,.str aiv,.int am]]) (zv (decide (hA held false= -1)) (zv (decide ((held.length:Int)<5+hN held)) (K (.tup [.agg [.int 0,.str []],.bool false,.int (-1)]) [.mk t0 [.int p,.ptr 1 0 0 [],.nilptr,.str held,.int (-1)],.mk tka [.int aw,.str akey,.str aiv,.int am]]) (K (.tup [.agg [.int (hK held),.str (hT held)],.bool true,.int (-1)]) [.mk t0 [.int p,.ptr 1 0 0 [],.nilptr,.str (hR held),.int (-1)],.mk tka [.int aw,.str akey,.str aiv,.int am]])) (K (.tup [.agg [.int 0,.str []],.bool false,.int (hA held false)]) [.mk t0 [.int p,.ptr 1 0 0 [],.nilptr,.str held,.int (hA held false)],.mk tka [.int aw,.str akey,.str aiv,.int am]]))) (K (.tup [.agg [.int 0,.str []],.bool false,.int f]) [.mk t0 [.int p,.ptr 1 0 0 [],.nilptr,.str held,.int f],.mk tka [.int aw,.str akey,.str aiv,.int am]]))
  | [.ptr 0 0 0 []],[.mk t0 [.int p,.nilptr,.ptr 1 0 0 [],.str held,.int f],.mk tkb [.int bw,.str bkey,.str biv,.int bm]]=>Pre (zcu bw bkey biv bm∧held.length<9223372036854775808) (zv (decide (f= -1)) (zv (decide (held.length<5)) (K (.tup [.agg [.int 0,.str []],.bool false,.int (-1)]) [.mk t0 [.int p,.nilptr,.ptr 1 0 0 [],.str held,.int (-1)],.mk tkb [.int bw,.str bkey,.str biv,.int bm]]) (zv (decide (hA held true= -1)) (zv (decide ((held.length:Int)<5+hN held)) (K (.tup [.agg [.int 0,.str []],.bool false,.int (-1)]) [.mk t0 [.int p,.nilptr,.ptr 1 0 0 [],.str held,.int (-1)],.mk tkb [.int bw,.str bkey,.str biv,.int bm]]) (zv (decide (hK held=20)) (K (.tup [.agg [.int (hK held),.str (hT held)],.bool true,.int (-1)]) [.mk t0 [.int p,.nilptr,.ptr 1 0 0 [],.str (hR held),.int (-1)],.mk tkb [.int bw,.str bkey,.str biv,.int bm]]) (zv (decide (hO bw bkey biv bm held)) (zv (decide (iA (hP bw bkey biv bm held)= -1)) (K (.tup [.agg [.int (iK (hP bw bkey biv bm held)),.str (((hP bw bkey biv bm held)).take (lnz (hP bw bkey biv bm held) (hP bw bkey biv bm held).length-1))],.bool true,.int (-1)]) [.mk t0 [.int p,.nilptr,.ptr 1 0 0 [],.str (hR held),.int (-1)],.mk tkb [.int bw,.str bkey,.str biv,.int (bm+1)]]) (K (.tup [.agg [.int 0,.str []],.bool false,.int (iA (hP bw bkey biv bm held))]) [.mk t0 [.int p,.nilptr,.ptr 1 0 0 [],.str held,.int (iA (hP bw bkey biv bm held))],.mk tkb [.int bw,.str bkey,.str biv,.int (bm+1)]])) (K (.tup [.agg [.int 0,.str []],.bool false,.int 20]) [.mk t0 [.int p,.nilptr,.ptr 1 0 0 [],.str held,.int 20],.mk tkb [.int bw,.str bkey,.str biv,.int bm]])))) (K (.tup [.agg [.int 0,.str []],.bool false,.int (hA held true)]) [.mk t0 [.int p,.nilptr,.ptr 1 0 0 [],.str held,.int (hA held true)],.mk tkb [.int bw,.str bkey,.str biv,.int bm]]))) (K (.tup [.agg [.int 0,.str []],.bool false,.int f]) [.mk t0 [.int p,.nilptr,.ptr 1 0 0 [],.str held,.int f],.mk tkb [.int bw,.str bkey,.str biv,.int bm]]))
  | [.ptr 0 0 0 []],[.mk t0 [.int p,.ptr 1 0 0 [],.ptr 2 0 0 [],.str held,.int f],.mk tka [.int aw,.str akey,.str aiv,.int am],.mk tkb [.int bw,.str bkey,.str biv,.int bm]]=>Pre (zcu bw bkey biv bm∧held.length<9223372036854775808) (zv (decide (f= -1)) (zv (decide (held.length<5)) (K (.tup [.agg [.int 0,.str []],.bool false,.int (-1)]) [.mk t0 [.int p,.ptr 1 0 0 [],.ptr 2 0 0 [],.str held,.int (-1)],.mk tka [.int aw,.str akey,.str aiv,.int am],.mk tkb [.int bw,.str bkey,.str biv,.int bm]]) (zv (decide (hA held true= -1)) (zv (decide ((held.length:Int)<5+hN held)) (K (.tup [.agg [.int 0,.str []],.bool false,.int (-1)]) [.mk t0 [.int p,.ptr 1 0 0 [],.ptr 2 0 0 [],.str held,.int (-1)],.mk tka [.int aw,.str akey,.str aiv,.int am],.mk tkb [.int bw,.str bkey,.str biv,.int bm]]) (zv (decide (hK held=20)) (K (.tup [.agg [.int (hK held),.str (hT held)],.bool true,.int (-1)]) [.mk t0 [.int p,.ptr 1 0 0 [],.ptr 2 0 0 [],.str (hR held),.int (-1)],.mk tka [.int aw,.str akey,.str aiv,.int am],.mk tkb [.int bw,.str bkey,.str biv,.int bm]]) (zv (decide (hO bw bkey biv bm held)) (zv (decide (iA (hP bw bkey biv bm held)= -1)) (K (.tup [.agg [.int (iK (hP bw bkey biv bm held)),.str (((hP bw bkey biv bm held)).take (lnz (hP bw bkey biv bm held) (hP bw bkey biv bm held).length-1))],.bool true,.int (-1)]) [.mk t0 [.int p,.ptr 1 0 0 [],.ptr 2 0 0 [],.str (hR held),.int (-1)],.mk tka [.int aw,.str akey,.str aiv,.int am],.mk tkb [.int bw,.str bkey,.str biv,.int (bm+1)]]) (K (.tup [.agg [.int 0,.str []],.bool false,.int (iA (hP bw bkey biv bm held))]) [.mk t0 [.int p,.ptr 1 0 0 [],.ptr 2 0 0 [],.str held,.int (iA (hP bw bkey biv bm held))],.mk tka [.int aw,.str akey,.str aiv,.int am],.mk tkb [.int bw,.str bkey,.str biv,.int (bm+1)]])) (K (.tup [.agg [.int 0,.str []],.bool false,.int 20]) [.mk t0 [.int p,.ptr 1 0 0 [],.ptr 2 0 0 [],.str held,.int 20],.mk tka [.int aw,.str akey,.str aiv,.int am],.mk tkb [.int bw,.str bkey,.str biv,.int bm]])))) (K (.tup [.agg [.int 0,.str []],.bool false,.int (hA held true)]) [.mk t0 [.int p,.ptr 1 0 0 [],.ptr 2 0 0 [],.str held,.int (hA held true)],.mk tka [.int aw,.str akey,.str aiv,.int am],.mk tkb [.int bw,.str bkey,.str biv,.int bm]]))) (K (.tup [.agg [.int 0,.str []],.bool false,.int f]) [.mk t0 [.int p,.ptr 1 0 0 [],.ptr 2 0 0 [],.str held,.int f],.mk tka [.int aw,.str akey,.str aiv,.int am],.mk tkb [.int bw,.str bkey,.str biv,.int bm]]))
  |_,_=>False
set_option maxHeartbeats 4000000 in
theorem z5s:zp prog 22 zpq:=by
  refine zn yw (zd zzj zl) rfl func22 rfl call22 (D:=ycs) ?_ ?_
  ·intro args hp K h
   unfold zpq at h
   split at h
   ·exact Nat.le_of_ble_eq_true rfl
   ·exact Nat.le_of_ble_eq_true rfl
   ·exact Nat.le_of_ble_eq_true rfl
   ·exact Nat.le_of_ble_eq_true rfl
   ·exact h.elim
  ·intro args hp K h
   unfold zpq at h
   split at h
   ·rename_i t0 p held f
    obtain ⟨hpre,h⟩:=zm h
    obtain ⟨ht,hf⟩:=zt h
    generalize e0:decide (f= -1)=c0 at ht hf
    cases c0
    ·have h:=hf rfl
     repeat ((conv=>whnf);first|refine zo ?_|refine zf ?_|refine zg ?_|refine zb ?_|refine zi (by first|(rw [e0];rfl)) ?_|refine zj (by first|(rw [e0];rfl)) ?_)
     conv=>whnf
     exact zh [0] h
    ·have h:=ht rfl
     obtain ⟨ht,hf⟩:=zt h
     generalize e1:decide (held.length<5)=c1 at ht hf
     cases c1
     ·have h:=hf rfl
      obtain ⟨ht,hf⟩:=zt h
      generalize e2:decide (hA held false= -1)=c2 at ht hf
      cases c2
      ·have h:=hf rfl
       repeat ((conv=>whnf);first|refine zo ?_|refine zf ?_|refine zg ?_|refine zb ?_|refine zi (by first|(rw [e0];rfl)|(rw [e1];rfl)|(rw [e2];rfl)) ?_|refine zj (by first|(rw [e0];rfl)|(rw [e1];rfl)|(rw [e2];rfl)) ?_)
       conv=>whnf
       exact zh [0] h
      ·have h:=ht rfl
       obtain ⟨ht,hf⟩:=zt h
       generalize e3:decide ((held.length:Int)<5+hN held)=c3 at ht hf
       cases c3
       ·have h:=hf rfl
        repeat ((conv=>whnf);first|refine zo ?_|refine zf ?_|refine zg ?_|refine zb ?_|refine zi (by first|(rw [e0];rfl)|(rw [e1];rfl)|(rw [e2];rfl)|(rw [e3];rfl)) ?_|refine zj (by first|(rw [e0];rfl)|(rw [e1];rfl)|(rw [e2];rfl)|(rw [e3];rfl)) ?_)
        conv=>whnf
        exact zh [0] h
       ·have h:=ht rfl
        repeat ((conv=>whnf);first|refine zo ?_|refine zf ?_|refine zg ?_|refine zb ?_|refine zi (by first|(rw [e0];rfl)|(rw [e1];rfl)|(rw [e2];rfl)|(rw [e3];rfl)) ?_|refine zj (by first|(rw [e0];rfl)|(rw [e1];rfl)|(rw [e2];rfl)|(rw [e3];rfl)) ?_)
        conv=>whnf
        exact zh [0] h
     ·have h:=ht rfl
      repeat ((conv=>whnf);first|refine zo ?_|refine zf ?_|refine zg ?_|refine zb ?_|refine zi (by first|(rw [e0];rfl)|(rw [e1];rfl)) ?_|refine zj (by first|(rw [e0];rfl)|(rw [e1];rfl)) ?_)
      conv=>whnf
      exact zh [0] h
   ·rename_i t0 p held f tka aw akey aiv am
    obtain ⟨hpre,h⟩:=zm h
    obtain ⟨ht,hf⟩:=zt h
    generalize e0:decide (f= -1)=c0 at ht hf
    cases c0
    ·have h:=hf rfl
     repeat ((conv=>whnf);first|refine zo ?_|refine zf ?_|refine zg ?_|refine zb ?_|refine zi (by first|(rw [e0];rfl)) ?_|refine zj (by first|(rw [e0];rfl)) ?_)
     conv=>whnf
     exact zh [0,1] h
    ·have h:=ht rfl
     obtain ⟨ht,hf⟩:=zt h
     generalize e1:decide (held.length<5)=c1 at ht hf
     cases c1
     ·have h:=hf rfl
      obtain ⟨ht,hf⟩:=zt h
      generalize e2:decide (hA held false= -1)=c2 at ht hf
      cases c2
      ·have h:=hf rfl
       repeat ((conv=>whnf);first|refine zo ?_|refine zf ?_|refine zg ?_|refine zb ?_|refine zi (by first|(rw [e0];rfl)|(rw [e1];rfl)|(rw [e2];rfl)) ?_|refine zj (by first|(rw [e0];rfl)|(rw [e1];rfl)|(rw [e2];rfl)) ?_)
       conv=>whnf
       exact zh [0,1] h
      ·have h:=ht rfl
       obtain ⟨ht,hf⟩:=zt h
       generalize e3:decide ((held.length:Int)<5+hN held)=c3 at ht hf
       cases c3
       ·have h:=hf rfl
        repeat ((conv=>whnf);first|refine zo ?_|refine zf ?_|refine zg ?_|refine zb ?_|refine zi (by first|(rw [e0];rfl)|(rw [e1];rfl)|(rw [e2];rfl)|(rw [e3];rfl)) ?_|refine zj (by first|(rw [e0];rfl)|(rw [e1];rfl)|(rw [e2];rfl)|(rw [e3];rfl)) ?_)
        conv=>whnf
        exact zh [0,1] h
       ·have h:=ht rfl
        repeat ((conv=>whnf);first|refine zo ?_|refine zf ?_|refine zg ?_|refine zb ?_|refine zi (by first|(rw [e0];rfl)|(rw [e1];rfl)|(rw [e2];rfl)|(rw [e3];rfl)) ?_|refine zj (by first|(rw [e0];rfl)|(rw [e1];rfl)|(rw [e2];rfl)|(rw [e3];rfl)) ?_)
        conv=>whnf
        exact zh [0,1] h
     ·have h:=ht rfl
      repeat ((conv=>whnf);first|refine zo ?_|refine zf ?_|refine zg ?_|refine zb ?_|refine zi (by first|(rw [e0];rfl)|(rw [e1];rfl)) ?_|refine zj (by first|(rw [e0];rfl)|(rw [e1];rfl)) ?_)
      conv=>whnf
      exact zh [0,1] h
   ·rename_i t0 p held f tkb bw bkey biv bm
    obtain ⟨hpre,h⟩:=zm h
    obtain ⟨ht,hf⟩:=zt h
    generalize e0:decide (f= -1)=c0 at ht hf
    cases c0
    ·have h:=hf rfl
     repeat ((conv=>whnf);first|refine zo ?_|refine zf ?_|refine zg ?_|refine zb ?_|refine zi (by first|(rw [e0];rfl)) ?_|refine zj (by first|(rw [e0];rfl)) ?_)
     conv=>whnf
     exact zh [0,1] h
    ·have h:=ht rfl
     obtain ⟨ht,hf⟩:=zt h
     generalize e1:decide (held.length<5)=c1 at ht hf
     cases c1
     ·have h:=hf rfl
      obtain ⟨ht,hf⟩:=zt h
      generalize e2:decide (hA held true= -1)=c2 at ht hf
      cases c2
      ·have h:=hf rfl
       repeat ((conv=>whnf);first|refine zo ?_|refine zf ?_|refine zg ?_|refine zb ?_|refine zi (by first|(rw [e0];rfl)|(rw [e1];rfl)|(rw [e2];rfl)) ?_|refine zj (by first|(rw [e0];rfl)|(rw [e1];rfl)|(rw [e2];rfl)) ?_)
       conv=>whnf
       exact zh [0,1] h
      ·have h:=ht rfl
       obtain ⟨ht,hf⟩:=zt h
       generalize e3:decide ((held.length:Int)<5+hN held)=c3 at ht hf
       cases c3
       ·have h:=hf rfl
        obtain ⟨ht,hf⟩:=zt h
        generalize e4:decide (hK held=20)=c4 at ht hf
        cases c4
        ·have h:=hf rfl
         obtain ⟨ht,hf⟩:=zt h
         generalize e5:decide (hO bw bkey biv bm held)=c5 at ht hf
         cases c5
         ·have h:=hf rfl
          repeat ((conv=>whnf);first|refine zo ?_|refine zf ?_|refine zg ?_|refine zb ?_|refine zi (by first|(rw [e0];rfl)|(rw [e1];rfl)|(rw [e2];rfl)|(rw [e3];rfl)|(rw [e4];rfl)|(rw [e5];rfl)) ?_|refine zj (by first|(rw [e0];rfl)|(rw [e1];rfl)|(rw [e2];rfl)|(rw [e3];rfl)|(rw [e4];rfl)|(rw [e5];rfl)) ?_)
          conv=>whnf
          exact zh [0,1] h
         ·have h:=ht rfl
          obtain ⟨ht,hf⟩:=zt h
          generalize e6:decide (iA (hP bw bkey biv bm held)= -1)=c6 at ht hf
          cases c6
          ·have h:=hf rfl
           repeat ((conv=>whnf);first|refine zo ?_|refine zf ?_|refine zg ?_|refine zb ?_|refine zi (by first|(rw [e0];rfl)|(rw [e1];rfl)|(rw [e2];rfl)|(rw [e3];rfl)|(rw [e4];rfl)|(rw [e5];rfl)|(rw [e6];rfl)) ?_|refine zj (by first|(rw [e0];rfl)|(rw [e1];rfl)|(rw [e2];rfl)|(rw [e3];rfl)|(rw [e4];rfl)|(rw [e5];rfl)|(rw [e6];rfl)) ?_)
           conv=>whnf
           exact zh [0,1] h
          ·have h:=ht rfl
           repeat ((conv=>whnf);first|refine zo ?_|refine zf ?_|refine zg ?_|refine zb ?_|refine zi (by first|(rw [e0];rfl)|(rw [e1];rfl)|(rw [e2];rfl)|(rw [e3];rfl)|(rw [e4];rfl)|(rw [e5];rfl)|(rw [e6];rfl)) ?_|refine zj (by first|(rw [e0];rfl)|(rw [e1];rfl)|(rw [e2];rfl)|(rw [e3];rfl)|(rw [e4];rfl)|(rw [e5];rfl)|(rw [e6];rfl)) ?_)
           conv=>whnf
           exact zh [0,1] h
        ·have h:=ht rfl
         repeat ((conv=>whnf);first|refine zo ?_|refine zf ?_|refine zg ?_|refine zb ?_|refine zi (by first|(rw [e0];rfl)|(rw [e1];rfl)|(rw [e2];rfl)|(rw [e3];rfl)|(rw [e4];rfl)) ?_|refine zj (by first|(rw [e0];rfl)|(rw [e1];rfl)|(rw [e2];rfl)|(rw [e3];rfl)|(rw [e4];rfl)) ?_)
         conv=>whnf
         exact zh [0,1] h
       ·have h:=ht rfl
        repeat ((conv=>whnf);first|refine zo ?_|refine zf ?_|refine zg ?_|refine zb ?_|refine zi (by first|(rw [e0];rfl)|(rw [e1];rfl)|(rw [e2];rfl)|(rw [e3];rfl)) ?_|refine zj (by first|(rw [e0];rfl)|(rw [e1];rfl)|(rw [e2];rfl)|(rw [e3];rfl)) ?_)
        conv=>whnf
        exact zh [0,1] h
     ·have h:=ht rfl
      repeat ((conv=>whnf);first|refine zo ?_|refine zf ?_|refine zg ?_|refine zb ?_|refine zi (by first|(rw [e0];rfl)|(rw [e1];rfl)) ?_|refine zj (by first|(rw [e0];rfl)|(rw [e1];rfl)) ?_)
      conv=>whnf
      exact zh [0,1] h
   ·rename_i t0 p held f tka aw akey aiv am tkb bw bkey biv bm
    obtain ⟨hpre,h⟩:=zm h
    obtain ⟨ht,hf⟩:=zt h
    generalize e0:decide (f= -1)=c0 at ht hf
    cases c0
    ·have h:=hf rfl
     repeat ((conv=>whnf);first|refine zo ?_|refine zf ?_|refine zg ?_|refine zb ?_|refine zi (by first|(rw [e0];rfl)) ?_|refine zj (by first|(rw [e0];rfl)) ?_)
     conv=>whnf
     exact zh [0,1,2] h
    ·have h:=ht rfl
     obtain ⟨ht,hf⟩:=zt h
     generalize e1:decide (held.length<5)=c1 at ht hf
     cases c1
     ·have h:=hf rfl
      obtain ⟨ht,hf⟩:=zt h
      generalize e2:decide (hA held true= -1)=c2 at ht hf
      cases c2
      ·have h:=hf rfl
       repeat ((conv=>whnf);first|refine zo ?_|refine zf ?_|refine zg ?_|refine zb ?_|refine zi (by first|(rw [e0];rfl)|(rw [e1];rfl)|(rw [e2];rfl)) ?_|refine zj (by first|(rw [e0];rfl)|(rw [e1];rfl)|(rw [e2];rfl)) ?_)
       conv=>whnf
       exact zh [0,1,2] h
      ·have h:=ht rfl
       obtain ⟨ht,hf⟩:=zt h
       generalize e3:decide ((held.length:Int)<5+hN held)=c3 at ht hf
       cases c3
       ·have h:=hf rfl
        obtain ⟨ht,hf⟩:=zt h
        generalize e4:decide (hK held=20)=c4 at ht hf
        cases c4
        ·have h:=hf rfl
         obtain ⟨ht,hf⟩:=zt h
         generalize e5:decide (hO bw bkey biv bm held)=c5 at ht hf
         cases c5
         ·have h:=hf rfl
          repeat ((conv=>whnf);first|refine zo ?_|refine zf ?_|refine zg ?_|refine zb ?_|refine zi (by first|(rw [e0];rfl)|(rw [e1];rfl)|(rw [e2];rfl)|(rw [e3];rfl)|(rw [e4];rfl)|(rw [e5];rfl)) ?_|refine zj (by first|(rw [e0];rfl)|(rw [e1];rfl)|(rw [e2];rfl)|(rw [e3];rfl)|(rw [e4];rfl)|(rw [e5];rfl)) ?_)
          conv=>whnf
          exact zh [0,1,2] h
         ·have h:=ht rfl
          obtain ⟨ht,hf⟩:=zt h
          generalize e6:decide (iA (hP bw bkey biv bm held)= -1)=c6 at ht hf
          cases c6
          ·have h:=hf rfl
           repeat ((conv=>whnf);first|refine zo ?_|refine zf ?_|refine zg ?_|refine zb ?_|refine zi (by first|(rw [e0];rfl)|(rw [e1];rfl)|(rw [e2];rfl)|(rw [e3];rfl)|(rw [e4];rfl)|(rw [e5];rfl)|(rw [e6];rfl)) ?_|refine zj (by first|(rw [e0];rfl)|(rw [e1];rfl)|(rw [e2];rfl)|(rw [e3];rfl)|(rw [e4];rfl)|(rw [e5];rfl)|(rw [e6];rfl)) ?_)
           conv=>whnf
           exact zh [0,1,2] h
          ·have h:=ht rfl
           repeat ((conv=>whnf);first|refine zo ?_|refine zf ?_|refine zg ?_|refine zb ?_|refine zi (by first|(rw [e0];rfl)|(rw [e1];rfl)|(rw [e2];rfl)|(rw [e3];rfl)|(rw [e4];rfl)|(rw [e5];rfl)|(rw [e6];rfl)) ?_|refine zj (by first|(rw [e0];rfl)|(rw [e1];rfl)|(rw [e2];rfl)|(rw [e3];rfl)|(rw [e4];rfl)|(rw [e5];rfl)|(rw [e6];rfl)) ?_)
           conv=>whnf
           exact zh [0,1,2] h
        ·have h:=ht rfl
         repeat ((conv=>whnf);first|refine zo ?_|refine zf ?_|refine zg ?_|refine zb ?_|refine zi (by first|(rw [e0];rfl)|(rw [e1];rfl)|(rw [e2];rfl)|(rw [e3];rfl)|(rw [e4];rfl)) ?_|refine zj (by first|(rw [e0];rfl)|(rw [e1];rfl)|(rw [e2];rfl)|(rw [e3];rfl)|(rw [e4];rfl)) ?_)
         conv=>whnf
         exact zh [0,1,2] h
       ·have h:=ht rfl
        repeat ((conv=>whnf);first|refine zo ?_|refine zf ?_|refine zg ?_|refine zb ?_|refine zi (by first|(rw [e0];rfl)|(rw [e1];rfl)|(rw [e2];rfl)|(rw [e3];rfl)) ?_|refine zj (by first|(rw [e0];rfl)|(rw [e1];rfl)|(rw [e2];rfl)|(rw [e3];rfl)) ?_)
        conv=>whnf
        exact zh [0,1,2] h
     ·have h:=ht rfl
      repeat ((conv=>whnf);first|refine zo ?_|refine zf ?_|refine zg ?_|refine zb ?_|refine zi (by first|(rw [e0];rfl)|(rw [e1];rfl)) ?_|refine zj (by first|(rw [e0];rfl)|(rw [e1];rfl)) ?_)
      conv=>whnf
      exact zh [0,1,2] h
   ·exact h.elim
end Go.Sym.Z

namespace Go.Sym.Z
open Go Go.Proofs.Tryz Go.Sym.Lp Go.Sym.Cha Go.Sym.Sha Go.Sym.Hk Go.Sym.Gcm Go.Sym.Aes
set_option maxRecDepth 100000
theorem zrp {p kind:Int} {s:List UInt8} (hs:s.length≤16384) (hp:0≤p):((zf3 p kind s).length:Int)=inL p s.length∧inL p s.length≤16385:=by
  obtain ⟨h1,h2⟩:=zp8 (p:=p) (n:=(s.length:Int)) (by omega) (by omega) hp
  refine ⟨?_,h2⟩
  unfold zf3
  rw [List.length_append,List.length_cons,List.length_replicate]
  omega
theorem zw4 (w:Int) (key nonce aad s:List UInt8):(yx w key nonce aad s).length=s.length+16:=by
  rw [zb8,List.length_append,xg,za2]
theorem zxa {p w:Int} {key iv:List UInt8} {m kind:Int} {s:List UInt8} (hs:s.length≤16384) (hp:0≤p):((zas p w key iv m kind s).length:Int)=21+inL p s.length:=by
  obtain ⟨hl,h2⟩:=zrp (kind:=kind) hs hp
  unfold zas
  rw [List.length_append,zw4,zek];omega
attribute [local irreducible] zab exF kyF ivF yx xe yi inL ncF lnz iA hA hN hK
end Go.Sym.Z

namespace Go.Sym.Z
open Go Go.Proofs.Tryz Go.Sym.Lp Go.Sym.Cha Go.Sym.Sha Go.Sym.Hk Go.Sym.Gcm Go.Sym.Aes
set_option maxRecDepth 100000
attribute [local irreducible] zab exF kyF ivF yx xe yi inL ncF lnz iA hA hN hK zas zf3 hO hP hR hT iK
end Go.Sym.Z

namespace Go.Sym.Z
open Go Go.Proofs.Tryz Go.Sym.Lp Go.Sym.Cha Go.Sym.Sha Go.Sym.Hk Go.Sym.Gcm
set_option maxRecDepth 100000
attribute [local irreducible] zab exF kyF ivF yx xe yi inL ncF lnz iA hA hN hK
end Go.Sym.Z

namespace Go.Sym.Z
open Go Go.Proofs.Tryz Go.Sym.Lp Go.Sym.Cha Go.Sym.Sha Go.Sym.Hk Go.Sym.Gcm
set_option maxRecDepth 100000
attribute [local irreducible] zab exF kyF ivF yx xe yi inL ncF lnz iA hA hN hK
def ybx (p rg:Int):Prop:=(0≤p∧p≤16384)∧(rg=0∨(33290≤rg∧rg≤262144))
instance (p rg:Int):Decidable (ybx p rg):=by unfold ybx;exact inferInstance
end Go.Sym.Z

namespace Go.Sym.Z
open Go Go.Proofs.Tryz Go.Sym.Lp Go.Sym.Cha Go.Sym.Sha Go.Sym.Hk Go.Sym.Gcm
set_option maxRecDepth 100000
attribute [local irreducible] zab exF kyF ivF yx xe yi inL ncF lnz iA hA hN hK hdF zas zf3
end Go.Sym.Z

namespace Go.Sym.Z
open Go Go.Proofs.Tryz Go.Sym.Lp Go.Sym.Cha Go.Sym.Sha Go.Sym.Hk Go.Sym.Gcm
set_option maxRecDepth 100000
attribute [local irreducible] zab exF kyF ivF yx xe yi inL ncF iA hA hN hK hdF zas zf3
end Go.Sym.Z

namespace Go.Sym.Z
open Go Go.Proofs.Tryz Go.Sym.Lp Go.Sym.Cha Go.Sym.Sha Go.Sym.Hk Go.Sym.Gcm
set_option maxRecDepth 100000
theorem z8l (h:List UInt8) (b:Bool):hA h b= -1∨0≤hA h b:=by
  unfold hA
  repeat' split
  all_goals first|exact .inl rfl|exact .inr (by decide)
theorem z8r (h:List UInt8):iA h= -1∨0≤iA h:=by
  unfold iA
  repeat' split
  all_goals first|exact .inl rfl|exact .inr (by decide)
attribute [local irreducible] zab exF kyF ivF yx xe yi inL ncF iA hA hN hK hdF zas zf3 hT hR lnz
end Go.Sym.Z

namespace Go.Sym.Z
open Go Go.Proofs.Tryz Go.Sym.Lp Go.Sym.Cha Go.Sym.Sha Go.Sym.Hk Go.Sym.Gcm
set_option maxRecDepth 100000
def ya4 (nt:Nat) (ty:List (Nat×TyI)) (fs:List (Nat×Spec)) (w:World) (rs:List Row):Ctx:={nt:=nt,ty:=ty,fn:=fs,E:=fun w'=>Ext (fun _=>False) w w',ext:=zgp rs}
structure Kq where
  w:Int
  key:List UInt8
  iv:List UInt8
  m:Int
structure RQ where
  W:Option Kq
  R:Option Kq
  rm:Int
  held:List UInt8
  f:Int
def kOK (x:Option Kq) (B:Nat):Prop:= ∀k,x=some k→su k.w∧k.key.length=aSz k.w∧k.iv.length=12∧0≤k.m∧k.m≤(B:Int)
structure RI (q:RQ) (B:Nat):Prop where
  hW:kOK q.W B
  hR:kOK q.R B
  hm:0≤q.rm∧q.rm≤(B:Int)
  he:q.f= -1→ ∀k,q.R=some k→q.rm=k.m
  hf:q.f= -1∨0≤q.f
  hl:q.held.length≤B*281474976710656
theorem zsc {x:Option Kq} {B C:Nat} (h:kOK x B) (hBC:B≤C):kOK x C:=fun k hk=>by
  obtain ⟨h1,h2,h3,h4,h5⟩:=h k hk
  exact ⟨h1,h2,h3,h4,by omega⟩
theorem RI.mono {q:RQ} {B C:Nat} (h:RI q B) (hBC:B≤C):RI q C:=
  ⟨zsc h.hW hBC,zsc h.hR hBC,⟨h.hm.1,by have:=h.hm.2;omega⟩,h.he,h.hf,Nat.le_trans h.hl (Nat.mul_le_mul_right _ hBC)⟩
def kB (k:Kq):Blk:= .mk 103 [.int k.w,.str k.key,.str k.iv,.int k.m]
theorem zz3 (h:List UInt8):(hR h).length≤h.length:=by unfold hR;rw [List.length_drop];omega
attribute [local irreducible] zab exF kyF ivF yx xe yi inL ncF lnz iA hA hN hK zas zf3 hO hP hR hT iK hdF
end Go.Sym.Z

namespace Go.Sym
end Go.Sym

namespace Go.Sym.Z
open Go Go.Proofs.Tryz Go.Sym.Lp Go.Sym.Cha Go.Sym.Sha Go.Sym.Hk Go.Sym.Gcm
set_option maxRecDepth 100000
structure JQ (i:Nat) (F:Int→Int→List UInt8→Int→RQ) where
  k:Nat
  bm:Int
  rm:Int
  held:List UInt8
  f:Int
  hk:k≤30
  hq:RI (F bm rm held f) (31*i+1+k)
attribute [local irreducible] zab exF kyF ivF yx xe yi inL ncF lnz iA hA hN hK zas zf3 hO hP hR hT iK hdF
end Go.Sym.Z

namespace Go.Sym.Z
open Go Go.Proofs.Tryz Go.Sym.Lp Go.Sym.Cha Go.Sym.Sha Go.Sym.Hk Go.Sym.Gcm
set_option maxRecDepth 100000
attribute [local irreducible] zab exF kyF ivF yx xe yi inL ncF lnz iA hA hN hK zas zf3 hO hP hR hT iK hdF
end Go.Sym.Z

namespace Go.Sym.Z
open Go Go.Proofs.Tryz Go.Sym.Lp Go.Sym.Cha Go.Sym.Sha Go.Sym.Hk Go.Sym.Gcm
set_option maxRecDepth 100000
structure OQ (n:Nat) where
  i:Nat
  hn:i≤n
  h40:i≤40
  q:RQ
  hq:RI q (31*i)
attribute [local irreducible] zab exF kyF ivF yx xe yi inL ncF lnz iA hA hN hK zas zf3 hO hP hR hT iK hdF
end Go.Sym.Z
