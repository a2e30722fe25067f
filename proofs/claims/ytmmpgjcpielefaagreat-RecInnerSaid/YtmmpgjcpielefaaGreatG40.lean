/-
  Contracts of functions of the program, each said of symbolic values, and plain laws; no condition beyond each statement's own.
-/
import Derived.Test.YtmmpgjcpielefaaGreatG39
set_option linter.unusedSimpArgs false
set_option linter.unusedVariables false
namespace Go.Sym.Z
open Go Go.Proofs.Tryz Go.Sym.Lp Go.Sym.Cha Go.Sym.Sha Go.Sym.Hk
set_option maxRecDepth 100000
attribute [local irreducible] zaq exF kyF ivF y4 zas y5 inL ncF lnz iA hA hN hK
def yix:List (Nat×List PStep):= [(3,[⟨0,[]⟩,⟨1,[]⟩,⟨2,[]⟩,⟨3,[]⟩,⟨4,[0,1,2,3]⟩,⟨5,[0,1,2,3]⟩,⟨6,[0,1,2,3]⟩,⟨7,[0,1,2,3]⟩,⟨8,[0,1,2,3]⟩,⟨9,[]⟩,⟨10,[]⟩,⟨11,[]⟩,⟨12,[11]⟩,⟨13,[11,12]⟩,⟨14,[12,13]⟩,⟨15,[13]⟩,⟨16,[]⟩]),(6,[⟨0,[]⟩,⟨1,[0]⟩,⟨2,[0]⟩,⟨3,[0]⟩,⟨4,[0]⟩,⟨5,[0]⟩,⟨6,[0,1,2,3,4,5]⟩,⟨7,[0,1,2,3,4,5,6]⟩,⟨8,[0,1,2,3,4,5,6]⟩,⟨9,[0,1,2,3,4,5,6]⟩,⟨10,[0,1,2,3,4,5,6]⟩,⟨11,[0,1,2,3,4,5,6,7,8,9,10]⟩,⟨12,[0,1,2,3,4,5,6,7,8,9,10]⟩,⟨13,[0,1,2,3,4,5,6]⟩,⟨18,[0,1,2,3,4,5,6,7,8,9,10,11,12,13]⟩,⟨14,[18]⟩,⟨15,[18]⟩,⟨16,[18]⟩,⟨17,[18,16]⟩,⟨19,[17]⟩,⟨20,[]⟩])]
def yh3:List (Nat×List PStep):= [(4,[⟨0,[]⟩,⟨1,[0]⟩,⟨2,[0]⟩,⟨3,[0]⟩,⟨4,[0]⟩,⟨5,[1,2,3,4]⟩,⟨6,[1,2,3,4]⟩,⟨7,[]⟩])]
def hT (h:List UInt8):List UInt8:=(h.drop 5).take (hN h).toNat
def hR (h:List UInt8):List UInt8:=h.drop (5+(hN h).toNat)
def hP (w:Int) (key iv:List UInt8) (m:Int) (h:List UInt8):List UInt8:=y5 w key (ncF iv m) ((hT h).take ((hT h).length-16))
def hO (w:Int) (key iv:List UInt8) (m:Int) (h:List UInt8):Prop:=16≤(hT h).length∧zas w key (ncF iv m) (h.take 5) ((hT h).take ((hT h).length-16))=(hT h).drop ((hT h).length-16)
instance (w:Int) (key iv:List UInt8) (m:Int) (h:List UInt8):Decidable (hO w key iv m h):=by unfold hO;exact inferInstance
theorem zu5 (h:List UInt8):0≤hN h∧hN h≤65535:=by
  unfold hN
  have b3:=(h.getD 3 0).toNat_lt
  have b4:=(h.getD 4 0).toNat_lt
  omega
theorem zzd {h:List UInt8} {b:Bool} (e:hA h b= -1):hN h≤16640:=by
  have hm:(if b=true∧hK h=23 then (16640:Int) else 16384)≤16640:=by split<;>decide
  by_cases h1:y6 (hK h)
  ·by_cases h2:(if b=true∧hK h=23 then (16640:Int) else 16384)<hN h
   ·exfalso
    have e2:hA h b=22:=by unfold hA;rw [if_pos h1,if_pos h2]
    rw [e2] at e
    exact absurd e (by decide)
   ·omega
  ·exfalso
   have e2:hA h b=10:=by unfold hA;rw [if_neg h1]
   rw [e2] at e
   exact absurd e (by decide)
theorem ztc {h:List UInt8} (hl:5+hN h≤h.length):((hT h).length:Int)=hN h:=by
  have:=zu5 h
  unfold hT
  rw [List.length_take,List.length_drop]
  omega
theorem zy8 {h:List UInt8} (n:Nat) (e:n=(hN h).toNat):List.take n (List.drop 5 h)=hT h:=by subst e;rfl
def zsm:Spec:=fun args hp K=>match args,hp with
  | [.ptr 0 0 0 []],[.mk t0 [.int p,.nilptr,.nilptr,.str held,.int f]]=>Pre (held.length<9223372036854775808) (zx (decide (held.length<5)) (K (.tup [.agg [.int 0,.str []],.bool false,.int (-1)]) [.mk t0 [.int p,.nilptr,.nilptr,.str held,.int f]]) (zx (decide (hA held false= -1)) (zx (decide ((held.length:Int)<5+hN held)) (K (.tup [.agg [.int 0,.str []],.bool false,.int (-1)]) [.mk t0 [.int p,.nilptr,.nilptr,.str held,.int f]]) (K (.tup [.agg [.int (hK held),.str (hT held)],.bool true,.int (-1)]) [.mk t0 [.int p,.nilptr,.nilptr,.str (hR held),.int f]])) (K (.tup [.agg [.int 0,.str []],.bool false,.int (hA held false)]) [.mk t0 [.int p,.nilptr,.nilptr,.str held,.int f]])))
  | [.ptr 0 0 0 []],[.mk t0 [.int p,.ptr 1 0 0 [],.nilptr,.str held,.int f],.mk tka [.int aw,.str akey,.str aiv,.int am]]=>Pre (held.length<9223372036854775808) (zx (decide (held.length<5)) (K (.tup [.agg [.int 0,.str []],.bool false,.int (-1)]) [.mk t0 [.int p,.ptr 1 0 0 [],.nilptr,.str held,.int f],.mk tka [.int aw,.str akey,.str aiv,.int am]]) (zx (decide (hA held false= -1)) (zx (decide ((held.length:Int)<5+hN held)) (K (.tup [.agg [.int 0,.str []],.bool false,.int (-1)]) [.mk t0 [.int p,.ptr 1 0 0 [],.nilptr,.str held,.int f],.mk tka [.int aw,.str akey,.str aiv,.int am]]) (K (.tup [.agg [.int (hK held),.str (hT held)],.bool true,.int (-1)]) [.mk t0 [.int p,.ptr 1 0 0 [],.nilptr,.str (hR held),.int f],.mk tka [.int aw,.str akey,.str aiv,.int am]])) (K (.tup [.agg [.int 0,.str []],.bool false,.int (hA held false)]) [.mk t0 [.int p,.ptr 1 0 0 [],.nilptr,.str held,.int f],.mk tka [.int aw,.str akey,.str aiv,.int am]])))
  | [.ptr 0 0 0 []],[.mk t0 [.int p,.nilptr,.ptr 1 0 0 [],.str held,.int f],.mk tkb [.int bw,.str bkey,.str biv,.int bm]]=>Pre (zd2 bw bkey biv bm∧held.length<9223372036854775808) (zx (decide (held.length<5)) (K (.tup [.agg [.int 0,.str []],.bool false,.int (-1)]) [.mk t0 [.int p,.nilptr,.ptr 1 0 0 [],.str held,.int f],.mk tkb [.int bw,.str bkey,.str biv,.int bm]]) (zx (decide (hA held true= -1)) (zx (decide ((held.length:Int)<5+hN held)) (K (.tup [.agg [.int 0,.str []],.bool false,.int (-1)]) [.mk t0 [.int p,.nilptr,.ptr 1 0 0 [],.str held,.int f],.mk tkb [.int bw,.str bkey,.str biv,.int bm]]) (zx (decide (hK held=20)) (K (.tup [.agg [.int (hK held),.str (hT held)],.bool true,.int (-1)]) [.mk t0 [.int p,.nilptr,.ptr 1 0 0 [],.str (hR held),.int f],.mk tkb [.int bw,.str bkey,.str biv,.int bm]]) (zx (decide (hO bw bkey biv bm held)) (zx (decide (iA (hP bw bkey biv bm held)= -1)) (K (.tup [.agg [.int (iK (hP bw bkey biv bm held)),.str (((hP bw bkey biv bm held)).take (lnz (hP bw bkey biv bm held) (hP bw bkey biv bm held).length-1))],.bool true,.int (-1)]) [.mk t0 [.int p,.nilptr,.ptr 1 0 0 [],.str (hR held),.int f],.mk tkb [.int bw,.str bkey,.str biv,.int (bm+1)]]) (K (.tup [.agg [.int 0,.str []],.bool false,.int (iA (hP bw bkey biv bm held))]) [.mk t0 [.int p,.nilptr,.ptr 1 0 0 [],.str held,.int f],.mk tkb [.int bw,.str bkey,.str biv,.int (bm+1)]])) (K (.tup [.agg [.int 0,.str []],.bool false,.int 20]) [.mk t0 [.int p,.nilptr,.ptr 1 0 0 [],.str held,.int f],.mk tkb [.int bw,.str bkey,.str biv,.int bm]])))) (K (.tup [.agg [.int 0,.str []],.bool false,.int (hA held true)]) [.mk t0 [.int p,.nilptr,.ptr 1 0 0 [],.str held,.int f],.mk tkb [.int bw,.str bkey,.str biv,.int bm]])))
  | [.ptr 0 0 0 []],[.mk t0 [.int p,.ptr 1 0 0 [],.ptr 2 0 0 [],.str held,.int f],.mk tka [.int aw,.str akey,.str aiv,.int am],.mk tkb [.int bw,.str bkey,.str biv,.int bm]]=>Pre (zd2 bw bkey biv bm∧held.length<9223372036854775808) (zx (decide (held.length<5)) (K (.tup [.agg [.int 0,.str []],.bool false,.int (-1)]) [.mk t0 [.int p,.ptr 1 0 0 [],.ptr 2 0 0 [],.str held,.int f],.mk tka [.int aw,.str akey,.str aiv,.int am],.mk tkb [.int bw,.str bkey,.str biv,.int bm]]) (zx (decide (hA held true= -1)) (zx (decide ((held.length:Int)<5+hN held)) (K (.tup [.agg [.int 0,.str []],.bool false,.int (-1)]) [.mk t0 [.int p,.ptr 1 0 0 [],.ptr 2 0 0 [],.str held,.int f],.mk tka [.int aw,.str akey,.str aiv,.int am],.mk tkb [.int bw,.str bkey,.str biv,.int bm]]) (zx (decide (hK held=20)) (K (.tup [.agg [.int (hK held),.str (hT held)],.bool true,.int (-1)]) [.mk t0 [.int p,.ptr 1 0 0 [],.ptr 2 0 0 [],.str (hR held),.int f],.mk tka [.int aw,.str akey,.str aiv,.int am],.mk tkb [.int bw,.str bkey,.str biv,.int bm]]) (zx (decide (hO bw bkey biv bm held)) (zx (decide (iA (hP bw bkey biv bm held)= -1)) (K (.tup [.agg [.int (iK (hP bw bkey biv bm held)),.str (((hP bw bkey biv bm held)).take (lnz (hP bw bkey biv bm held) (hP bw bkey biv bm held).length-1))],.bool true,.int (-1)]) [.mk t0 [.int p,.ptr 1 0 0 [],.ptr 2 0 0 [],.str (hR held),.int f],.mk tka [.int aw,.str akey,.str aiv,.int am],.mk tkb [.int bw,.str bkey,.str biv,.int (bm+1)]]) (K (.tup [.agg [.int 0,.str []],.bool false,.int (iA (hP bw bkey biv bm held))]) [.mk t0 [.int p,.ptr 1 0 0 [],.ptr 2 0 0 [],.str held,.int f],.mk tka [.int aw,.str akey,.str aiv,.int am],.mk tkb [.int bw,.str bkey,.str biv,.int (bm+1)]])) (K (.tup [.agg [.int 0,.str []],.bool false,.int 20]) [.mk t0 [.int p,.ptr 1 0 0 [],.ptr 2 0 0 [],.str held,.int f],.mk tka [.int aw,.str akey,.str aiv,.int am],.mk tkb [.int bw,.str bkey,.str biv,.int bm]])))) (K (.tup [.agg [.int 0,.str []],.bool false,.int (hA held true)]) [.mk t0 [.int p,.ptr 1 0 0 [],.ptr 2 0 0 [],.str held,.int f],.mk tka [.int aw,.str akey,.str aiv,.int am],.mk tkb [.int bw,.str bkey,.str biv,.int bm]])))
  |_,_=>False
set_option maxHeartbeats 4000000 in
theorem z39:zm prog 48 zsm:=by
  refine zk y3 (zc yco (zc z8n zg)) rfl func48 rfl call48 (D:=yix) ?_ ?_
  ·intro args hp K h
   unfold zsm at h
   split at h
   ·exact Nat.le_of_ble_eq_true rfl
   ·exact Nat.le_of_ble_eq_true rfl
   ·exact Nat.le_of_ble_eq_true rfl
   ·exact Nat.le_of_ble_eq_true rfl
   ·exact h.elim
  ·intro args hp K h
   unfold zsm at h
   split at h
   ·rename_i t0 p held f
    obtain ⟨hl,h⟩:=zl h
    obtain ⟨ht,hf⟩:=zy h
    by_cases h5:held.length<5
    ·have h:=ht (decide_eq_true h5)
     refine za ?_
     exact ze [0] h
    ·have h:=hf (decide_eq_false h5)
     have hp0:5≤held.length∧held.length<9223372036854775808:=⟨by omega,hl⟩
     have hnb:=zu5 held
     obtain ⟨ht,hf⟩:=zy h
     by_cases ha:hA held false= -1
     ·have e1:decide (hA held false= -1)=true:=decide_eq_true ha
      have h:=ht e1
      have hn16:=zzd ha
      obtain ⟨ht,hf⟩:=zy h
      by_cases hs:(held.length:Int)<5+hN held
      ·have h:=ht (decide_eq_true hs)
       refine za ?_
       exact ze [0] h
      ·have h:=hf (decide_eq_false hs)
       have hTl:=ztc (h:=held) (by omega)
       have hTe:List.take ((5+hN held).toNat-Int.toNat 5) (List.drop (Int.toNat 5) held)=hT held:=zy8 _ (by show (5+hN held).toNat-5=_;omega)
       have hRe:List.drop (5+hN held).toNat held=hR held:=by unfold hR;congr 1;omega
       refine za ?_
       rw [hTe,hRe]
       conv=>whnf
       exact ze [0] h
     ·have e1:decide (hA held false= -1)=false:=decide_eq_false ha
      have h:=hf e1
      refine za ?_
      exact ze [0] h
   ·rename_i t0 p held f tka aw akey aiv am
    obtain ⟨hl,h⟩:=zl h
    obtain ⟨ht,hf⟩:=zy h
    by_cases h5:held.length<5
    ·have h:=ht (decide_eq_true h5)
     refine za ?_
     exact ze [0,1] h
    ·have h:=hf (decide_eq_false h5)
     have hp0:5≤held.length∧held.length<9223372036854775808:=⟨by omega,hl⟩
     have hnb:=zu5 held
     obtain ⟨ht,hf⟩:=zy h
     by_cases ha:hA held false= -1
     ·have e1:decide (hA held false= -1)=true:=decide_eq_true ha
      have h:=ht e1
      have hn16:=zzd ha
      obtain ⟨ht,hf⟩:=zy h
      by_cases hs:(held.length:Int)<5+hN held
      ·have h:=ht (decide_eq_true hs)
       refine za ?_
       exact ze [0,1] h
      ·have h:=hf (decide_eq_false hs)
       have hTl:=ztc (h:=held) (by omega)
       have hTe:List.take ((5+hN held).toNat-Int.toNat 5) (List.drop (Int.toNat 5) held)=hT held:=zy8 _ (by show (5+hN held).toNat-5=_;omega)
       have hRe:List.drop (5+hN held).toNat held=hR held:=by unfold hR;congr 1;omega
       refine za ?_
       rw [hTe,hRe]
       conv=>whnf
       exact ze [0,1] h
     ·have e1:decide (hA held false= -1)=false:=decide_eq_false ha
      have h:=hf e1
      refine za ?_
      exact ze [0,1] h
   ·rename_i t0 p held f tkb bw bkey biv bm
    obtain ⟨⟨hok,hl⟩,h⟩:=zl h
    obtain ⟨ht,hf⟩:=zy h
    by_cases h5:held.length<5
    ·have h:=ht (decide_eq_true h5)
     refine za ?_
     exact ze [0,1] h
    ·have h:=hf (decide_eq_false h5)
     have hp0:5≤held.length∧held.length<9223372036854775808:=⟨by omega,hl⟩
     have hnb:=zu5 held
     obtain ⟨ht,hf⟩:=zy h
     by_cases ha:hA held true= -1
     ·have e1:decide (hA held true= -1)=true:=decide_eq_true ha
      have h:=ht e1
      have hn16:=zzd ha
      obtain ⟨ht,hf⟩:=zy h
      by_cases hs:(held.length:Int)<5+hN held
      ·have h:=ht (decide_eq_true hs)
       refine za ?_
       exact ze [0,1] h
      ·have h:=hf (decide_eq_false hs)
       have hTl:=ztc (h:=held) (by omega)
       have hTe:List.take ((5+hN held).toNat-Int.toNat 5) (List.drop (Int.toNat 5) held)=hT held:=zy8 _ (by show (5+hN held).toNat-5=_;omega)
       have hRe:List.drop (5+hN held).toNat held=hR held:=by unfold hR;congr 1;omega
       have hpb:zd2 bw bkey biv bm∧(List.take (Int.toNat 5) held).length≤100∧(hT held).length≤20000:=⟨hok,by rw [List.length_take];show min 5 _≤_;omega,by omega⟩
       obtain ⟨ht,hf⟩:=zy h
       by_cases hk:hK held=20
       ·have e2:=decide_eq_true hk
        have h:=ht e2
        refine za ?_
        rw [hTe]
        refine za ?_
        rw [hRe]
        conv=>whnf
        exact ze [0,1] h
       ·have e2:=decide_eq_false hk
        have h:=hf e2
        obtain ⟨ht,hf⟩:=zy h
        by_cases hop:hO bw bkey biv bm held
        ·have e3:decide (hO bw bkey biv bm held)=true:=decide_eq_true hop
         have h:=ht e3
         obtain ⟨ht,hf⟩:=zy h
         by_cases hia:iA (hP bw bkey biv bm held)= -1
         ·have e4:decide (iA (hP bw bkey biv bm held)= -1)=true:=decide_eq_true hia
          have e5:decide (iA (y5 bw bkey (ncF biv bm) (List.take ((hT held).length-16) (hT held)))= -1)=true:=e4
          have h:=ht e4
          refine za ?_
          rw [hTe]
          repeat ((conv=>whnf);first|refine zu ?_|refine zi ?_|refine zj ?_|refine zb ?_|refine zo (by first|(rw [e5];rfl)) ?_|refine zn (by first|(rw [e5];rfl)) ?_)
          conv=>whnf
          rw [hRe]
          conv=>whnf
          exact ze [0,1] h
         ·have e4:decide (iA (hP bw bkey biv bm held)= -1)=false:=decide_eq_false hia
          have e5:decide (iA (y5 bw bkey (ncF biv bm) (List.take ((hT held).length-16) (hT held)))= -1)=false:=e4
          have h:=hf e4
          refine za ?_
          rw [hTe]
          repeat ((conv=>whnf);first|refine zu ?_|refine zi ?_|refine zj ?_|refine zb ?_|refine zo (by first|(rw [e5];rfl)) ?_|refine zn (by first|(rw [e5];rfl)) ?_)
          conv=>whnf
          conv=>whnf
          exact ze [0,1] h
        ·have e3:decide (hO bw bkey biv bm held)=false:=decide_eq_false hop
         have h:=hf e3
         refine za ?_
         rw [hTe]
         refine za ?_
         conv=>whnf
         exact ze [0,1] h
     ·have e1:decide (hA held true= -1)=false:=decide_eq_false ha
      have h:=hf e1
      refine za ?_
      exact ze [0,1] h
   ·rename_i t0 p held f tka aw akey aiv am tkb bw bkey biv bm
    obtain ⟨⟨hok,hl⟩,h⟩:=zl h
    obtain ⟨ht,hf⟩:=zy h
    by_cases h5:held.length<5
    ·have h:=ht (decide_eq_true h5)
     refine za ?_
     exact ze [0,1,2] h
    ·have h:=hf (decide_eq_false h5)
     have hp0:5≤held.length∧held.length<9223372036854775808:=⟨by omega,hl⟩
     have hnb:=zu5 held
     obtain ⟨ht,hf⟩:=zy h
     by_cases ha:hA held true= -1
     ·have e1:decide (hA held true= -1)=true:=decide_eq_true ha
      have h:=ht e1
      have hn16:=zzd ha
      obtain ⟨ht,hf⟩:=zy h
      by_cases hs:(held.length:Int)<5+hN held
      ·have h:=ht (decide_eq_true hs)
       refine za ?_
       exact ze [0,1,2] h
      ·have h:=hf (decide_eq_false hs)
       have hTl:=ztc (h:=held) (by omega)
       have hTe:List.take ((5+hN held).toNat-Int.toNat 5) (List.drop (Int.toNat 5) held)=hT held:=zy8 _ (by show (5+hN held).toNat-5=_;omega)
       have hRe:List.drop (5+hN held).toNat held=hR held:=by unfold hR;congr 1;omega
       have hpb:zd2 bw bkey biv bm∧(List.take (Int.toNat 5) held).length≤100∧(hT held).length≤20000:=⟨hok,by rw [List.length_take];show min 5 _≤_;omega,by omega⟩
       obtain ⟨ht,hf⟩:=zy h
       by_cases hk:hK held=20
       ·have e2:=decide_eq_true hk
        have h:=ht e2
        refine za ?_
        rw [hTe]
        refine za ?_
        rw [hRe]
        conv=>whnf
        exact ze [0,1,2] h
       ·have e2:=decide_eq_false hk
        have h:=hf e2
        obtain ⟨ht,hf⟩:=zy h
        by_cases hop:hO bw bkey biv bm held
        ·have e3:decide (hO bw bkey biv bm held)=true:=decide_eq_true hop
         have h:=ht e3
         obtain ⟨ht,hf⟩:=zy h
         by_cases hia:iA (hP bw bkey biv bm held)= -1
         ·have e4:decide (iA (hP bw bkey biv bm held)= -1)=true:=decide_eq_true hia
          have e5:decide (iA (y5 bw bkey (ncF biv bm) (List.take ((hT held).length-16) (hT held)))= -1)=true:=e4
          have h:=ht e4
          refine za ?_
          rw [hTe]
          repeat ((conv=>whnf);first|refine zu ?_|refine zi ?_|refine zj ?_|refine zb ?_|refine zo (by first|(rw [e5];rfl)) ?_|refine zn (by first|(rw [e5];rfl)) ?_)
          conv=>whnf
          rw [hRe]
          conv=>whnf
          exact ze [0,1,2] h
         ·have e4:decide (iA (hP bw bkey biv bm held)= -1)=false:=decide_eq_false hia
          have e5:decide (iA (y5 bw bkey (ncF biv bm) (List.take ((hT held).length-16) (hT held)))= -1)=false:=e4
          have h:=hf e4
          refine za ?_
          rw [hTe]
          repeat ((conv=>whnf);first|refine zu ?_|refine zi ?_|refine zj ?_|refine zb ?_|refine zo (by first|(rw [e5];rfl)) ?_|refine zn (by first|(rw [e5];rfl)) ?_)
          conv=>whnf
          conv=>whnf
          exact ze [0,1,2] h
        ·have e3:decide (hO bw bkey biv bm held)=false:=decide_eq_false hop
         have h:=hf e3
         refine za ?_
         rw [hTe]
         refine za ?_
         conv=>whnf
         exact ze [0,1,2] h
     ·have e1:decide (hA held true= -1)=false:=decide_eq_false ha
      have h:=hf e1
      refine za ?_
      exact ze [0,1,2] h
   ·exact h.elim
def ztd:Spec:=fun args hp K=>match args,hp with
  | [.ptr 0 0 0 []],[.mk t0 [.int p,.nilptr,.nilptr,.str held,.int f]]=>Pre (held.length<9223372036854775808) (zx (decide (f= -1)) (zx (decide (held.length<5)) (K (.tup [.agg [.int 0,.str []],.bool false,.int (-1)]) [.mk t0 [.int p,.nilptr,.nilptr,.str held,.int (-1)]]) (zx (decide (hA held false= -1)) (zx (decide ((held.length:Int)<5+hN held)) (K (.tup [.agg [.int 0,.str []],.bool false,.int (-1)]) [.mk t0 [.int p,.nilptr,.nilptr,.str held,.int (-1)]]) (K (.tup [.agg [.int (hK held),.str (hT held)],.bool true,.int (-1)]) [.mk t0 [.int p,.nilptr,.nilptr,.str (hR held),.int (-1)]])) (K (.tup [.agg [.int 0,.str []],.bool false,.int (hA held false)]) [.mk t0 [.int p,.nilptr,.nilptr,.str held,.int (hA held false)]]))) (K (.tup [.agg [.int 0,.str []],.bool false,.int f]) [.mk t0 [.int p,.nilptr,.nilptr,.str held,.int f]]))
  | [.ptr 0 0 0 []],[.mk t0 [.int p,.ptr 1 0 0 [],.nilptr,.str held,.int f],.mk tka [.int aw,.str akey,.str aiv,.int am]]=>Pre (held.length<9223372036854775808) (zx (decide (f= -1)) (zx (decide (held.length<5)) (K (.tup [.agg [.int 0,.str []],.bool false,.int (-1)]) [.mk t0 [.int p,.ptr 1 0 0 [],.nilptr,.str held,.int (-1)],.mk tka [.int aw,.str akey,.str aiv,.int am]]) (zx (decide (hA held false= -1)) (zx (decide ((held.length:Int)<5+hN held)) (K (.tup [.agg [.int 0,.str []],.bool false,.int (-1)]) [.mk t0 [.int p,.ptr 1 0 0 [],.nilptr,.str held,.int (-1)],.mk tka [.int aw,.str akey,.str aiv,.int am]]) (K (.tup [.agg [.int (hK held),.str (hT held)],.bool true,.int (-1)]) [.mk t0 [.int p,.ptr 1 0 0 [],.nilptr,.str (hR held),.int (-1)],.mk tka [.int aw,.str akey,.str aiv,.int am]])) (K (.tup [.agg [.int 0,.str []],.bool false,.int (hA held false)]) [.mk t0 [.int p,.ptr 1 0 0 [],.nilptr,.str held,.int (hA held false)],.mk tka [.int aw,.str akey,.str aiv,.int am]]))) (K (.tup [.agg [.int 0,.str []],.bool false,.int f]) [.mk t0 [.int p,.ptr 1 0 0 [],.nilptr,.str held,.int f],.mk tka [.int aw,.str akey,.str aiv,.int am]]))
  | [.ptr 0 0 0 []],[.mk t0 [.int p,.nilptr,.ptr 1 0 0 [],.str held,.int f],.mk tkb [.int bw,.str bkey,.str biv,.int bm]]=>Pre (zd2 bw bkey biv bm∧held.length<9223372036854775808) (zx (decide (f= -1)) (zx (decide (held.length<5)) (K (.tup [.agg [.int 0,.str []],.bool false,.int (-1)]) [.mk t0 [.int p,.nilptr,.ptr 1 0 0 [],.str held,.int (-1)],.mk tkb [.int bw,.str bkey,.str biv,.int bm]]) (zx (decide (hA held true= -1)) (zx (decide ((held.length:Int)<5+hN held)) (K (.tup [.agg [.int 0,.str []],.bool false,.int (-1)]) [.mk t0 [.int p,.nilptr,.ptr 1 0 0 [],.str held,.int (-1)],.mk tkb [.int bw,.str bkey,.str biv,.int bm]]) (zx (decide (hK held=20)) (K (.tup [.agg [.int (hK held),.str (hT held)],.bool true,.int (-1)]) [.mk t0 [.int p,.nilptr,.ptr 1 0 0 [],.str (hR held),.int (-1)],.mk tkb [.int bw,.str bkey,.str biv,.int bm]]) (zx (decide (hO bw bkey biv bm held)) (zx (decide (iA (hP bw bkey biv bm held)= -1)) (K (.tup [.agg [.int (iK (hP bw bkey biv bm held)),.str (((hP bw bkey biv bm held)).take (lnz (hP bw bkey biv bm held) (hP bw bkey biv bm held).length-1))],.bool true,.int (-1)]) [.mk t0 [.int p,.nilptr,.ptr 1 0 0 [],.str (hR held),.int (-1)],.mk tkb [.int bw,.str bkey,.str biv,.int (bm+1)]]) (K (.tup [.agg [.int 0,.str []],.bool false,.int (iA (hP bw bkey biv bm held))]) [.mk t0 [.int p,.nilptr,.ptr 1 0 0 [],.str held,.int (iA (hP bw bkey biv bm held))],.mk tkb [.int bw,.str bkey,.str biv,.int (bm+1)]])) (K (.tup [.agg [.int 0,.str []],.bool false,.int 20]) [.mk t0 [.int p,.nilptr,.ptr 1 0 0 [],.str held,.int 20],.mk tkb [.int bw,.str bkey,.str biv,.int bm]])))) (K (.tup [.agg [.int 0,.str []],.bool false,.int (hA held true)]) [.mk t0 [.int p,.nilptr,.ptr 1 0 0 [],.str held,.int (hA held true)],.mk tkb [.int bw,.str bkey,.str biv,.int bm]]))) (K (.tup [.agg [.int 0,.str []],.bool false,.int f]) [.mk t0 [.int p,.nilptr,.ptr 1 0 0 [],.str held,.int f],.mk tkb [.int bw,.str bkey,.str biv,.int bm]]))
  | [.ptr 0 0 0 []],[.mk t0 [.int p,.ptr 1 0 0 [],.ptr 2 0 0 [],.str held,.int f],.mk tka [.int aw,.str akey,.str aiv,.int am],.mk tkb [.int bw,.str bkey,.str biv,.int bm]]=>Pre (zd2 bw bkey biv bm∧held.length<9223372036854775808) (zx (decide (f= -1)) (zx (decide (held.length<5)) (K (.tup [.agg [.int 0,.str []],.bool false,.int (-1)]) [.mk t0 [.int p,.ptr 1 0 0 [],.ptr 2 0 0 [],.str held,.int (-1)],.mk tka [.int aw,.str akey,.str aiv,.int am],.mk tkb [.int bw,.str bkey,.str biv,.int bm]]) (zx (decide (hA held true= -1)) (zx (decide ((held.length:Int)<5+hN held)) (K (.tup [.agg [.int 0,.str []],.bool false,.int (-1)]) [.mk t0 [.int p,.ptr 1 0 0 [],.ptr 2 0 0 [],.str held,.int (-1)],.mk tka [.int aw,.str akey,.str aiv,.int am],.mk tkb [.int bw,.str bkey,.str biv,.int bm]]) (zx (decide (hK held=20)) (K (.tup [.agg [.int (hK held),.str (hT held)],.bool true,.int (-1)]) [.mk t0 [.int p,.ptr 1 0 0 [],.ptr 2 0 0 [],.str (hR held),.int (-1)],.mk tka [.int aw,.str akey,.str aiv,.int am],.mk tkb [.int bw,.str bkey,.str biv,.int bm]]) (zx (decide (hO bw bkey biv bm held)) (zx (decide (iA (hP bw bkey biv bm held)= -1)) (K (.tup [.agg [.int (iK (hP bw bkey biv bm held)),.str (((hP bw bkey biv bm held)).take (lnz (hP bw bkey biv bm held) (hP bw bkey biv bm held).length-1))],.bool true,.int (-1)]) [.mk t0 [.int p,.ptr 1 0 0 [],.ptr 2 0 0 [],.str (hR held),.int (-1)],.mk tka [.int aw,.str akey,.str aiv,.int am],.mk tkb [.int bw,.str bkey,.str biv,.int (bm+1)]]) (K (.tup [.agg [.int 0,.str []],.bool false,.int (iA (hP bw bkey biv bm held))]) [.mk t0 [.int p,.ptr 1 0 0 [],.ptr 2 0 0 [],.str held,.int (iA (hP bw bkey biv bm held))],.mk tka [.int aw,.str akey,.str aiv,.int am],.mk tkb [.int bw,.str bkey,.str biv,.int (bm+1)]])) (K (.tup [.agg [.int 0,.str []],.bool false,.int 20]) [.mk t0 [.int p,.ptr 1 0 0 [],.ptr 2 0 0 [],.str held,.int 20],.mk tka [.int aw,.str akey,.str aiv,.int am],.mk tkb [.int bw,.str bkey,.str biv,.int bm]])))) (K (.tup [.agg [.int 0,.str []],.bool false,.int (hA held true)]) [.mk t0 [.int p,.ptr 1 0 0 [],.ptr 2 0 0 [],.str held,.int (hA held true)],.mk tka [.int aw,.str akey,.str aiv,.int am],.mk tkb [.int bw,.str bkey,.str biv,.int bm]]))) (K (.tup [.agg [.int 0,.str []],.bool false,.int f]) [.mk t0 [.int p,.ptr 1 0 0 [],.ptr 2 0 0 [],.str held,.int f],.mk tka [.int aw,.str akey,.str aiv,.int am],.mk tkb [.int bw,.str bkey,.str biv,.int bm]]))
  |_,_=>False
set_option maxHeartbeats 4000000 in
theorem zyu:zm prog 22 ztd:=by
  refine zk y3 (zc z39 zg) rfl func22 rfl call22 (D:=yh3) ?_ ?_
  ·intro args hp K h
   unfold ztd at h
   split at h
   ·exact Nat.le_of_ble_eq_true rfl
   ·exact Nat.le_of_ble_eq_true rfl
   ·exact Nat.le_of_ble_eq_true rfl
   ·exact Nat.le_of_ble_eq_true rfl
   ·exact h.elim
  ·intro args hp K h
   unfold ztd at h
   split at h
   ·rename_i t0 p held f
    obtain ⟨hpre,h⟩:=zl h
    obtain ⟨ht,hf⟩:=zy h
    generalize e0:decide (f= -1)=c0 at ht hf
    cases c0
    ·have h:=hf rfl
     repeat ((conv=>whnf);first|refine zu ?_|refine zi ?_|refine zj ?_|refine zb ?_|refine zo (by first|(rw [e0];rfl)) ?_|refine zn (by first|(rw [e0];rfl)) ?_)
     conv=>whnf
     exact ze [0] h
    ·have h:=ht rfl
     obtain ⟨ht,hf⟩:=zy h
     generalize e1:decide (held.length<5)=c1 at ht hf
     cases c1
     ·have h:=hf rfl
      obtain ⟨ht,hf⟩:=zy h
      generalize e2:decide (hA held false= -1)=c2 at ht hf
      cases c2
      ·have h:=hf rfl
       repeat ((conv=>whnf);first|refine zu ?_|refine zi ?_|refine zj ?_|refine zb ?_|refine zo (by first|(rw [e0];rfl)|(rw [e1];rfl)|(rw [e2];rfl)) ?_|refine zn (by first|(rw [e0];rfl)|(rw [e1];rfl)|(rw [e2];rfl)) ?_)
       conv=>whnf
       exact ze [0] h
      ·have h:=ht rfl
       obtain ⟨ht,hf⟩:=zy h
       generalize e3:decide ((held.length:Int)<5+hN held)=c3 at ht hf
       cases c3
       ·have h:=hf rfl
        repeat ((conv=>whnf);first|refine zu ?_|refine zi ?_|refine zj ?_|refine zb ?_|refine zo (by first|(rw [e0];rfl)|(rw [e1];rfl)|(rw [e2];rfl)|(rw [e3];rfl)) ?_|refine zn (by first|(rw [e0];rfl)|(rw [e1];rfl)|(rw [e2];rfl)|(rw [e3];rfl)) ?_)
        conv=>whnf
        exact ze [0] h
       ·have h:=ht rfl
        repeat ((conv=>whnf);first|refine zu ?_|refine zi ?_|refine zj ?_|refine zb ?_|refine zo (by first|(rw [e0];rfl)|(rw [e1];rfl)|(rw [e2];rfl)|(rw [e3];rfl)) ?_|refine zn (by first|(rw [e0];rfl)|(rw [e1];rfl)|(rw [e2];rfl)|(rw [e3];rfl)) ?_)
        conv=>whnf
        exact ze [0] h
     ·have h:=ht rfl
      repeat ((conv=>whnf);first|refine zu ?_|refine zi ?_|refine zj ?_|refine zb ?_|refine zo (by first|(rw [e0];rfl)|(rw [e1];rfl)) ?_|refine zn (by first|(rw [e0];rfl)|(rw [e1];rfl)) ?_)
      conv=>whnf
      exact ze [0] h
   ·rename_i t0 p held f tka aw akey aiv am
    obtain ⟨hpre,h⟩:=zl h
    obtain ⟨ht,hf⟩:=zy h
    generalize e0:decide (f= -1)=c0 at ht hf
    cases c0
    ·have h:=hf rfl
     repeat ((conv=>whnf);first|refine zu ?_|refine zi ?_|refine zj ?_|refine zb ?_|refine zo (by first|(rw [e0];rfl)) ?_|refine zn (by first|(rw [e0];rfl)) ?_)
     conv=>whnf
     exact ze [0,1] h
    ·have h:=ht rfl
     obtain ⟨ht,hf⟩:=zy h
     generalize e1:decide (held.length<5)=c1 at ht hf
     cases c1
     ·have h:=hf rfl
      obtain ⟨ht,hf⟩:=zy h
      generalize e2:decide (hA held false= -1)=c2 at ht hf
      cases c2
      ·have h:=hf rfl
       repeat ((conv=>whnf);first|refine zu ?_|refine zi ?_|refine zj ?_|refine zb ?_|refine zo (by first|(rw [e0];rfl)|(rw [e1];rfl)|(rw [e2];rfl)) ?_|refine zn (by first|(rw [e0];rfl)|(rw [e1];rfl)|(rw [e2];rfl)) ?_)
       conv=>whnf
       exact ze [0,1] h
      ·have h:=ht rfl
       obtain ⟨ht,hf⟩:=zy h
       generalize e3:decide ((held.length:Int)<5+hN held)=c3 at ht hf
       cases c3
       ·have h:=hf rfl
        repeat ((conv=>whnf);first|refine zu ?_|refine zi ?_|refine zj ?_|refine zb ?_|refine zo (by first|(rw [e0];rfl)|(rw [e1];rfl)|(rw [e2];rfl)|(rw [e3];rfl)) ?_|refine zn (by first|(rw [e0];rfl)|(rw [e1];rfl)|(rw [e2];rfl)|(rw [e3];rfl)) ?_)
        conv=>whnf
        exact ze [0,1] h
       ·have h:=ht rfl
        repeat ((conv=>whnf);first|refine zu ?_|refine zi ?_|refine zj ?_|refine zb ?_|refine zo (by first|(rw [e0];rfl)|(rw [e1];rfl)|(rw [e2];rfl)|(rw [e3];rfl)) ?_|refine zn (by first|(rw [e0];rfl)|(rw [e1];rfl)|(rw [e2];rfl)|(rw [e3];rfl)) ?_)
        conv=>whnf
        exact ze [0,1] h
     ·have h:=ht rfl
      repeat ((conv=>whnf);first|refine zu ?_|refine zi ?_|refine zj ?_|refine zb ?_|refine zo (by first|(rw [e0];rfl)|(rw [e1];rfl)) ?_|refine zn (by first|(rw [e0];rfl)|(rw [e1];rfl)) ?_)
      conv=>whnf
      exact ze [0,1] h
   ·rename_i t0 p held f tkb bw bkey biv bm
    obtain ⟨hpre,h⟩:=zl h
    obtain ⟨ht,hf⟩:=zy h
    generalize e0:decide (f= -1)=c0 at ht hf
    cases c0
    ·have h:=hf rfl
     repeat ((conv=>whnf);first|refine zu ?_|refine zi ?_|refine zj ?_|refine zb ?_|refine zo (by first|(rw [e0];rfl)) ?_|refine zn (by first|(rw [e0];rfl)) ?_)
     conv=>whnf
     exact ze [0,1] h
    ·have h:=ht rfl
     obtain ⟨ht,hf⟩:=zy h
     generalize e1:decide (held.length<5)=c1 at ht hf
     cases c1
     ·have h:=hf rfl
      obtain ⟨ht,hf⟩:=zy h
      generalize e2:decide (hA held true= -1)=c2 at ht hf
      cases c2
      ·have h:=hf rfl
       repeat ((conv=>whnf);first|refine zu ?_|refine zi ?_|refine zj ?_|refine zb ?_|refine zo (by first|(rw [e0];rfl)|(rw [e1];rfl)|(rw [e2];rfl)) ?_|refine zn (by first|(rw [e0];rfl)|(rw [e1];rfl)|(rw [e2];rfl)) ?_)
       conv=>whnf
       exact ze [0,1] h
      ·have h:=ht rfl
       obtain ⟨ht,hf⟩:=zy h
       generalize e3:decide ((held.length:Int)<5+hN held)=c3 at ht hf
       cases c3
       ·have h:=hf rfl
        obtain ⟨ht,hf⟩:=zy h
        generalize e4:decide (hK held=20)=c4 at ht hf
        cases c4
        ·have h:=hf rfl
         obtain ⟨ht,hf⟩:=zy h
         generalize e5:decide (hO bw bkey biv bm held)=c5 at ht hf
         cases c5
         ·have h:=hf rfl
          repeat ((conv=>whnf);first|refine zu ?_|refine zi ?_|refine zj ?_|refine zb ?_|refine zo (by first|(rw [e0];rfl)|(rw [e1];rfl)|(rw [e2];rfl)|(rw [e3];rfl)|(rw [e4];rfl)|(rw [e5];rfl)) ?_|refine zn (by first|(rw [e0];rfl)|(rw [e1];rfl)|(rw [e2];rfl)|(rw [e3];rfl)|(rw [e4];rfl)|(rw [e5];rfl)) ?_)
          conv=>whnf
          exact ze [0,1] h
         ·have h:=ht rfl
          obtain ⟨ht,hf⟩:=zy h
          generalize e6:decide (iA (hP bw bkey biv bm held)= -1)=c6 at ht hf
          cases c6
          ·have h:=hf rfl
           repeat ((conv=>whnf);first|refine zu ?_|refine zi ?_|refine zj ?_|refine zb ?_|refine zo (by first|(rw [e0];rfl)|(rw [e1];rfl)|(rw [e2];rfl)|(rw [e3];rfl)|(rw [e4];rfl)|(rw [e5];rfl)|(rw [e6];rfl)) ?_|refine zn (by first|(rw [e0];rfl)|(rw [e1];rfl)|(rw [e2];rfl)|(rw [e3];rfl)|(rw [e4];rfl)|(rw [e5];rfl)|(rw [e6];rfl)) ?_)
           conv=>whnf
           exact ze [0,1] h
          ·have h:=ht rfl
           repeat ((conv=>whnf);first|refine zu ?_|refine zi ?_|refine zj ?_|refine zb ?_|refine zo (by first|(rw [e0];rfl)|(rw [e1];rfl)|(rw [e2];rfl)|(rw [e3];rfl)|(rw [e4];rfl)|(rw [e5];rfl)|(rw [e6];rfl)) ?_|refine zn (by first|(rw [e0];rfl)|(rw [e1];rfl)|(rw [e2];rfl)|(rw [e3];rfl)|(rw [e4];rfl)|(rw [e5];rfl)|(rw [e6];rfl)) ?_)
           conv=>whnf
           exact ze [0,1] h
        ·have h:=ht rfl
         repeat ((conv=>whnf);first|refine zu ?_|refine zi ?_|refine zj ?_|refine zb ?_|refine zo (by first|(rw [e0];rfl)|(rw [e1];rfl)|(rw [e2];rfl)|(rw [e3];rfl)|(rw [e4];rfl)) ?_|refine zn (by first|(rw [e0];rfl)|(rw [e1];rfl)|(rw [e2];rfl)|(rw [e3];rfl)|(rw [e4];rfl)) ?_)
         conv=>whnf
         exact ze [0,1] h
       ·have h:=ht rfl
        repeat ((conv=>whnf);first|refine zu ?_|refine zi ?_|refine zj ?_|refine zb ?_|refine zo (by first|(rw [e0];rfl)|(rw [e1];rfl)|(rw [e2];rfl)|(rw [e3];rfl)) ?_|refine zn (by first|(rw [e0];rfl)|(rw [e1];rfl)|(rw [e2];rfl)|(rw [e3];rfl)) ?_)
        conv=>whnf
        exact ze [0,1] h
     ·have h:=ht rfl
      repeat ((conv=>whnf);first|refine zu ?_|refine zi ?_|refine zj ?_|refine zb ?_|refine zo (by first|(rw [e0];rfl)|(rw [e1];rfl)) ?_|refine zn (by first|(rw [e0];rfl)|(rw [e1];rfl)) ?_)
      conv=>whnf
      exact ze [0,1] h
   ·rename_i t0 p held f tka aw akey aiv am tkb bw bkey biv bm
    obtain ⟨hpre,h⟩:=zl h
    obtain ⟨ht,hf⟩:=zy h
    generalize e0:decide (f= -1)=c0 at ht hf
    cases c0
    ·have h:=hf rfl
     repeat ((conv=>whnf);first|refine zu ?_|refine zi ?_|refine zj ?_|refine zb ?_|refine zo (by first|(rw [e0];rfl)) ?_|refine zn (by first|(rw [e0];rfl)) ?_)
     conv=>whnf
     exact ze [0,1,2] h
    ·have h:=ht rfl
     obtain ⟨ht,hf⟩:=zy h
     generalize e1:decide (held.length<5)=c1 at ht hf
     cases c1
     ·have h:=hf rfl
      obtain ⟨ht,hf⟩:=zy h
      generalize e2:decide (hA held true= -1)=c2 at ht hf
      cases c2
      ·have h:=hf rfl
       repeat ((conv=>whnf);first|refine zu ?_|refine zi ?_|refine zj ?_|refine zb ?_|refine zo (by first|(rw [e0];rfl)|(rw [e1];rfl)|(rw [e2];rfl)) ?_|refine zn (by first|(rw [e0];rfl)|(rw [e1];rfl)|(rw [e2];rfl)) ?_)
       conv=>whnf
       exact ze [0,1,2] h
      ·have h:=ht rfl
       obtain ⟨ht,hf⟩:=zy h
       generalize e3:decide ((held.length:Int)<5+hN held)=c3 at ht hf
       cases c3
       ·have h:=hf rfl
        obtain ⟨ht,hf⟩:=zy h
        generalize e4:decide (hK held=20)=c4 at ht hf
        cases c4
        ·have h:=hf rfl
         obtain ⟨ht,hf⟩:=zy h
         generalize e5:decide (hO bw bkey biv bm held)=c5 at ht hf
         cases c5
         ·have h:=hf rfl
          repeat ((conv=>whnf);first|refine zu ?_|refine zi ?_|refine zj ?_|refine zb ?_|refine zo (by first|(rw [e0];rfl)|(rw [e1];rfl)|(rw [e2];rfl)|(rw [e3];rfl)|(rw [e4];rfl)|(rw [e5];rfl)) ?_|refine zn (by first|(rw [e0];rfl)|(rw [e1];rfl)|(rw [e2];rfl)|(rw [e3];rfl)|(rw [e4];rfl)|(rw [e5];rfl)) ?_)
          conv=>whnf
          exact ze [0,1,2] h
         ·have h:=ht rfl
          obtain ⟨ht,hf⟩:=zy h
          generalize e6:decide (iA (hP bw bkey biv bm held)= -1)=c6 at ht hf
          cases c6
          ·have h:=hf rfl
           repeat ((conv=>whnf);first|refine zu ?_|refine zi ?_|refine zj ?_|refine zb ?_|refine zo (by first|(rw [e0];rfl)|(rw [e1];rfl)|(rw [e2];rfl)|(rw [e3];rfl)|(rw [e4];rfl)|(rw [e5];rfl)|(rw [e6];rfl)) ?_|refine zn (by first|(rw [e0];rfl)|(rw [e1];rfl)|(rw [e2];rfl)|(rw [e3];rfl)|(rw [e4];rfl)|(rw [e5];rfl)|(rw [e6];rfl)) ?_)
           conv=>whnf
           exact ze [0,1,2] h
          ·have h:=ht rfl
           repeat ((conv=>whnf);first|refine zu ?_|refine zi ?_|refine zj ?_|refine zb ?_|refine zo (by first|(rw [e0];rfl)|(rw [e1];rfl)|(rw [e2];rfl)|(rw [e3];rfl)|(rw [e4];rfl)|(rw [e5];rfl)|(rw [e6];rfl)) ?_|refine zn (by first|(rw [e0];rfl)|(rw [e1];rfl)|(rw [e2];rfl)|(rw [e3];rfl)|(rw [e4];rfl)|(rw [e5];rfl)|(rw [e6];rfl)) ?_)
           conv=>whnf
           exact ze [0,1,2] h
        ·have h:=ht rfl
         repeat ((conv=>whnf);first|refine zu ?_|refine zi ?_|refine zj ?_|refine zb ?_|refine zo (by first|(rw [e0];rfl)|(rw [e1];rfl)|(rw [e2];rfl)|(rw [e3];rfl)|(rw [e4];rfl)) ?_|refine zn (by first|(rw [e0];rfl)|(rw [e1];rfl)|(rw [e2];rfl)|(rw [e3];rfl)|(rw [e4];rfl)) ?_)
         conv=>whnf
         exact ze [0,1,2] h
       ·have h:=ht rfl
        repeat ((conv=>whnf);first|refine zu ?_|refine zi ?_|refine zj ?_|refine zb ?_|refine zo (by first|(rw [e0];rfl)|(rw [e1];rfl)|(rw [e2];rfl)|(rw [e3];rfl)) ?_|refine zn (by first|(rw [e0];rfl)|(rw [e1];rfl)|(rw [e2];rfl)|(rw [e3];rfl)) ?_)
        conv=>whnf
        exact ze [0,1,2] h
     ·have h:=ht rfl
      repeat ((conv=>whnf);first|refine zu ?_|refine zi ?_|refine zj ?_|refine zb ?_|refine zo (by first|(rw [e0];rfl)|(rw [e1];rfl)) ?_|refine zn (by first|(rw [e0];rfl)|(rw [e1];rfl)) ?_)
      conv=>whnf
      exact ze [0,1,2] h
   ·exact h.elim
end Go.Sym.Z

namespace Go.Sym.Z
open Go Go.Proofs.Tryz Go.Sym.Lp Go.Sym.Cha Go.Sym.Sha Go.Sym.Hk Go.Sym.Gcm Go.Sym.Aes
set_option maxRecDepth 100000
def yin:List (Nat×List PStep):= []
theorem z98 (W:List UInt8) (R:Nat) (nonce:List UInt8) (n:UInt32) (s:List UInt8):gst W R nonce n (gst W R nonce n s)=s:=by
  have e: ∀i,i<s.length→stG W R nonce n (gst W R nonce n s) i=s.getD i 0:=by
    intro i hi
    unfold stG
    have:(gst W R nonce n s).getD i 0=stG W R nonce n s i:=by unfold gst;exact zcv _ _ hi 0
    rw [this]
    unfold stG
    rw [UInt8.xor_assoc,UInt8.xor_self,UInt8.xor_zero]
  have h1: ∀t:List UInt8,t.length=s.length→gst W R nonce n t=(List.range s.length).map (stG W R nonce n t):=fun t ht=>by unfold gst;rw [ht]
  rw [h1 _ (zj4 _ _ _ _ _),yi e]
  exact zdo rfl 0
theorem z0c (key nonce:List UInt8) (n:UInt32) (s:List UInt8):xl key nonce n (xl key nonce n s)=s:=by
  have e: ∀i,i<s.length→zdc key nonce n (xl key nonce n s) i=s.getD i 0:=by
    intro i hi
    unfold zdc
    have:(xl key nonce n s).getD i 0=zdc key nonce n s i:=by unfold xl;exact zcv _ _ hi 0
    rw [this]
    unfold zdc
    rw [UInt8.xor_assoc,UInt8.xor_self,UInt8.xor_zero]
  have h1: ∀t:List UInt8,t.length=s.length→xl key nonce n t=(List.range s.length).map (zdc key nonce n t):=fun t ht=>by unfold xl;rw [ht]
  rw [h1 _ (zgv _ _ _ _),yi e]
  exact zdo rfl 0
theorem zt0 (w:Int) (key nonce s:List UInt8):y5 w key nonce (y5 w key nonce s)=s:=by
  unfold y5
  split
  ·exact z0c _ _ _ _
  ·unfold ze1;exact z98 _ _ _ _ _
theorem zuj {s:List UInt8} {k:UInt8} {z:Nat} (hk:k≠0): ∀y,y≤z→lnz (s++k ::List.replicate z 0) (s.length+1+y)=s.length+1
  |0,_=>by
   show lnz _ (s.length+1)=_
   simp only [lnz]
   have e:(s++k ::List.replicate z 0).getD s.length 0=k:=by rw [List.getD_eq_getElem?_getD,List.getElem?_append_right (Nat.le_refl _),Nat.sub_self];rfl
   rw [if_neg (by rw [e];exact hk)]
  |y+1,h=>by
   show lnz _ (s.length+1+y+1)=_
   simp only [lnz]
   have e:(s++k ::List.replicate z 0).getD (s.length+1+y) 0=0:=by
     rw [List.getD_eq_getElem?_getD,List.getElem?_append_right (by omega),show s.length+1+y-s.length=y+1 by omega,List.getElem?_cons_succ,List.getElem?_replicate,if_pos (by omega)];rfl
   rw [if_pos e]
   exact zuj hk y (by omega)
theorem zoi {p kind:Int} {s:List UInt8} (hs:s.length≤16384) (hp:0≤p):((za0 p kind s).length:Int)=inL p s.length∧inL p s.length≤16385:=by
  obtain ⟨h1,h2⟩:=zr1 (p:=p) (n:=(s.length:Int)) (by omega) (by omega) hp
  refine ⟨?_,h2⟩
  unfold za0
  rw [List.length_append,List.length_cons,List.length_replicate]
  omega
theorem zov {k:Int} (h:0≤k∧k≤255):((UInt8.ofInt k).toNat:Int)=k:=by rw [zb4];omega
theorem z99 {p kind:Int} {s:List UInt8} (hs:s.length≤16384) (hp:0≤p) (hk:kind=21∨kind=22∨kind=23):
    lnz (za0 p kind s) (za0 p kind s).length=s.length+1∧iK (za0 p kind s)=kind∧iA (za0 p kind s)= -1∧(za0 p kind s).take (lnz (za0 p kind s) (za0 p kind s).length-1)=s:=by
  obtain ⟨hl,h2⟩:=zoi (kind:=kind) hs hp
  have hkk:((UInt8.ofInt kind).toNat:Int)=kind:=zov (by omega)
  have hne:UInt8.ofInt kind≠0:=fun h=>by rw [h] at hkk;change (0:Int)=kind at hkk;omega
  have h1:lnz (za0 p kind s) (za0 p kind s).length=s.length+1:=by
    have hz:(za0 p kind s).length=s.length+1+((inL p s.length).toNat-s.length-1):=by
      unfold za0;rw [List.length_append,List.length_cons,List.length_replicate];omega
    rw [hz];unfold za0;exact zuj hne _ (Nat.le_refl _)
  have h3:iK (za0 p kind s)=kind:=by
    unfold iK;rw [h1,Nat.add_sub_cancel]
    have e:(za0 p kind s).getD s.length 0=UInt8.ofInt kind:=by unfold za0;rw [List.getD_eq_getElem?_getD,List.getElem?_append_right (Nat.le_refl _),Nat.sub_self];rfl
    rw [e,hkk]
  refine ⟨h1,h3,?_,?_⟩
  ·unfold iA
   rw [if_neg (by omega),if_neg (by rw [h1];omega),if_pos (by rw [h3];exact hk)]
  ·rw [h1,Nat.add_sub_cancel];unfold za0;exact List.take_left' rfl
theorem yfk {k n:Int} (t:List UInt8) (h:0≤n∧n≤65535):hN (hdF k n++t)=n:=by
  have e:hN (hdF k n++t)=256*((UInt8.ofInt (n/ 2^8)).toNat:Int)+((UInt8.ofInt n).toNat:Int):=rfl
  rw [e,zb4,zb4]
  have:(2:Int)^8=256:=rfl
  rw [this];omega
theorem ygl {k n:Int} (t:List UInt8) (h:0≤k∧k≤255):hK (hdF k n++t)=k:=by
  have e:hK (hdF k n++t)=((UInt8.ofInt k).toNat:Int):=rfl
  rw [e,zov h]
theorem yap {h:List UInt8} {b:Bool} {k n:Int} (hk:hK h=k) (hn:hN h=n) (h1:y6 k) (h2:n≤(if b=true∧k=23 then 16640 else 16384)) (h3: ¬(b=true∧(k=21∨k=22))):hA h b= -1:=by
  unfold hA
  rw [hk,hn,if_pos h1,if_neg (by omega),if_neg h3]
theorem zbx (w:Int) (key nonce aad s:List UInt8):(y4 w key nonce aad s).length=s.length+16:=by
  rw [za2,List.length_append,xp,zbz]
theorem zq4 {p w:Int} {key iv:List UInt8} {m kind:Int} {s:List UInt8} (hs:s.length≤16384) (hp:0≤p):((yw p w key iv m kind s).length:Int)=21+inL p s.length:=by
  obtain ⟨hl,h2⟩:=zoi (kind:=kind) hs hp
  unfold yw
  rw [List.length_append,zbx,zfe];omega
theorem z5n {p w:Int} {key iv:List UInt8} {m kind:Int} {s:List UInt8} (t:List UInt8) (hs:s.length≤16384) (hp:0≤p):
    5≤(yw p w key iv m kind s++t).length∧hA (yw p w key iv m kind s++t) true= -1∧hK (yw p w key iv m kind s++t)=23∧5+hN (yw p w key iv m kind s++t)≤((yw p w key iv m kind s++t).length:Int)∧hO w key iv m (yw p w key iv m kind s++t)∧hP w key iv m (yw p w key iv m kind s++t)=za0 p kind s∧hR (yw p w key iv m kind s++t)=t:=by
  obtain ⟨hl,h2⟩:=zoi (kind:=kind) hs hp
  obtain ⟨h3,_⟩:=zr1 (p:=p) (n:=(s.length:Int)) (by omega) (by omega) hp
  have hL:=zq4 (w:=w) (key:=key) (iv:=iv) (m:=m) (kind:=kind) hs hp
  have hb:0≤inL p s.length+16∧inL p s.length+16≤65535:=⟨by omega,by omega⟩
  have hK0:hK (yw p w key iv m kind s++t)=23:=by unfold yw;rw [List.append_assoc];exact ygl _ (by decide)
  have hN0:hN (yw p w key iv m kind s++t)=inL p s.length+16:=by unfold yw;rw [List.append_assoc];exact yfk _ hb
  have hSl:((y4 w key (ncF iv m) (hdF 23 (inL p s.length+16)) (za0 p kind s)).length:Int)=inL p s.length+16:=by rw [zbx];omega
  have hT0:hT (yw p w key iv m kind s++t)=y4 w key (ncF iv m) (hdF 23 (inL p s.length+16)) (za0 p kind s):=by
    unfold hT
    rw [hN0]
    unfold yw
    rw [List.append_assoc,List.drop_left' (zfe _ _)]
    exact List.take_left' (by omega)
  have hTt:(hT (yw p w key iv m kind s++t)).take ((hT (yw p w key iv m kind s++t)).length-16)=y5 w key (ncF iv m) (za0 p kind s):=by
    rw [hT0,zbx,Nat.add_sub_cancel,za2];exact List.take_left' (xp _ _ _ _)
  have hTd:(hT (yw p w key iv m kind s++t)).drop ((hT (yw p w key iv m kind s++t)).length-16)=zas w key (ncF iv m) (hdF 23 (inL p s.length+16)) (y5 w key (ncF iv m) (za0 p kind s)):=by
    rw [hT0,zbx,Nat.add_sub_cancel,za2];exact List.drop_left' (xp _ _ _ _)
  have hT5:(yw p w key iv m kind s++t).take 5=hdF 23 (inL p s.length+16):=by
    unfold yw;rw [List.append_assoc];exact List.take_left' (zfe _ _)
  refine ⟨by rw [List.length_append];omega,yap hK0 hN0 (by decide) (by rw [if_pos ⟨rfl,rfl⟩];omega) (by decide),hK0,by rw [hN0,List.length_append];omega,?_,?_,?_⟩
  ·unfold hO
   rw [hTt,hTd,hT5,hT0,zbx]
   exact ⟨by omega,rfl⟩
  ·unfold hP
   rw [hTt,zt0]
  ·unfold hR
   rw [hN0]
   exact List.drop_left' (by omega)
attribute [local irreducible] zaq exF kyF ivF y4 zas y5 inL ncF lnz iA hA hN hK
def yd (s:List UInt8) (k:Nat):List UInt8:=ovr (List.replicate k 0) 0 (fun j=>s.getD j 0) (min k s.length)
def zxp:Spec:=fun args hp K=>match args,hp with
  | [.str s,.int k],[]=>Pre (0≤k∧k≤1000000∧s.length≤140737488351232) (K (.str (yd s k.toNat)) [])
  |_,_=>False
set_option maxHeartbeats 1000000 in
theorem z8l:zm prog 41 zxp:=by
  refine zk y3 zg rfl func41 rfl call41 (D:=yin) ?_ ?_
  ·intro args hp K h
   unfold zxp at h
   split at h
   ·exact Nat.le_of_ble_eq_true rfl
   ·exact h.elim
  ·intro args hp K h
   unfold zxp at h
   split at h
   ·rename_i s k
    obtain ⟨⟨h0,h1,hsl⟩,h⟩:=zl h
    obtain ⟨n,hn⟩: ∃n:Nat,k=(n:Int):=⟨k.toNat,(Int.toNat_of_nonneg h0).symm⟩
    have hn':k.toNat=n:=by omega
    rw [hn'] at h
    refine za ?_
    rw [hn']
    refine za ?_
    refine zp (Ix (min n s.length)) (fun q=>⟨[(0,.str s),(1,.int k),(5,.sl 0 0 0 [] n n),(6,.int q.i)],[.mk 5 [.arr8 n (ovr (List.replicate n 0) 0 (fun j=>s.getD j 0) q.i)]]⟩) (fun q=>(min n s.length)-q.i) ⟨0,Nat.zero_le _⟩ [0] ?_ ?_
    ·exact zt
    ·intro q
     have hi:=q.hi
     have hI:((q.i:Int)).toNat=q.i:=Int.toNat_natCast _
     have hol:(ovr (List.replicate n 0) 0 (fun j=>s.getD j 0) q.i).length=n:=by rw [yc (by rw [List.length_replicate];omega),List.length_replicate]
     have hix:off (ye [] ((q.i:Int)).toNat ty5.sz)=q.i:=by rw [zv,hI];show 0+q.i*1=_;omega
     by_cases h4:q.i<min n s.length
     ·refine za ?_
      refine ⟨⟨q.i+1,h4⟩,[0],by show (min n s.length)-(q.i+1)<(min n s.length)-q.i;omega,?_⟩
      repeat ((conv=>whnf);refine zb ?_)
      conv=>whnf
      exact zh (congrArg (fun x=>SV.agg [.arr8 n x]) (show (ovr (List.replicate n 0) 0 (fun j=>s.getD j 0) q.i).set (off (ye [] (q.i:Int).toNat ty5.sz)) (s.getD (q.i:Int).toNat 0)=ovr (List.replicate n 0) 0 (fun j=>s.getD j 0) (q.i+1) by rw [hix,hI];exact z8 (by rw [List.length_replicate];omega) rfl (by omega)))
     ·have e4:q.i=min n s.length:=by omega
      have hfi:List.take n (List.drop (off []) (ovr (List.replicate n 0) 0 (fun j=>s.getD j 0) q.i))=yd s n:=by
        show List.take n (List.drop 0 _)=_
        rw [List.drop_zero,List.take_of_length_le (by omega),e4];rfl
      by_cases h5:q.i<n
      ·refine za ?_
       conv=>whnf
       refine yv (hp':= []) [] h ?_
       repeat ((conv=>whnf);refine zb ?_)
       conv=>whnf
       exact zh (congrArg SV.str hfi)
      ·refine za ?_
       conv=>whnf
       refine yv (hp':= []) [] h ?_
       repeat ((conv=>whnf);refine zb ?_)
       conv=>whnf
       exact zh (congrArg SV.str hfi)
   ·exact h.elim
end Go.Sym.Z
