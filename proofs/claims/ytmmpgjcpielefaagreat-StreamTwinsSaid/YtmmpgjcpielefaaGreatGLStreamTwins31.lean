/-
  Contracts of functions of the program, each said of symbolic values, and plain laws; no condition beyond each statement's own.
-/
import GoSem.Core.Value
import Derived.Test.YtmmpgjcpielefaaGreatGLStreamTwins17
import Derived.Test.YtmmpgjcpielefaaGreatGLStreamTwins30
set_option linter.unusedSimpArgs false
set_option linter.unusedVariables false
namespace Go.Sym.Ring
def rot (l:List UInt8) (b:Nat):List UInt8:=l.drop b++l.take b
def zk (l:List UInt8) (b h:Nat):List UInt8:=(rot l b).take h
theorem xt {l:List UInt8} {b h:Nat} (hb:b≤l.length) (hh:h≤l.length):(zk l b h).length=h:=by
  simp [zk,rot];omega
theorem zae {l:List UInt8} {b h i:Nat} (hb:b<l.length) (hi:i<h) (hh:h≤l.length):(zk l b h)[i]?=if b+i<l.length then l[b+i]? else l[b+i-l.length]?:=by
  unfold zk rot
  rw [List.getElem?_take,if_pos hi]
  split
  ·rename_i hlt
   rw [List.getElem?_append_left (by simp;omega),List.getElem?_drop]
  ·rename_i hge
   rw [List.getElem?_append_right (by simp;omega),List.getElem?_take,if_pos (by simp;omega)]
   congr 1
   simp;omega
theorem zcm {l:List UInt8} {b h i:Nat} (hb:b≤l.length) (hi:h≤i) (hh:h≤l.length):(zk l b h)[i]?=none:=by
  rw [List.getElem?_eq_none];rw [xt hb hh];exact hi
theorem place {b a n:Nat} (hb:b<n) (ha:a≤n):(b+a)%n=if b+a<n then b+a else b+a-n:=by
  split
  ·exact Nat.mod_eq_of_lt ‹_›
  ·rw [Nat.mod_eq_sub_mod (by omega),Nat.mod_eq_of_lt (by omega)]
theorem z1q {l:List UInt8} {b h a k:Nat} (hb:b<l.length) (hh:h≤l.length) (hk:a+k≤h) (hp:(b+a)%l.length+k≤l.length):
    (l.drop ((b+a)%l.length)).take k=((zk l b h).drop a).take k:=by
  rw [place hb (by omega)] at hp ⊢
  apply List.ext_getElem?
  intro i
  rw [List.getElem?_take,List.getElem?_take]
  split
  ·rename_i hi
   rw [List.getElem?_drop,List.getElem?_drop,zae hb (by omega) hh]
   by_cases h1:b+a<l.length
   ·rw [if_pos h1] at hp ⊢
    rw [if_pos (by omega)]
    congr 1;omega
   ·rw [if_neg h1] at hp ⊢
    rw [if_neg (by omega)]
    congr 1;omega
  ·rfl
theorem z2z {l:List UInt8} {b h a k:Nat} (hb:b<l.length) (hh:h≤l.length) (hk:a+k≤h) (hp:l.length<(b+a)%l.length+k):
    (l.drop ((b+a)%l.length)).take (l.length-(b+a)%l.length)++l.take (k-(l.length-(b+a)%l.length))=((zk l b h).drop a).take k:=by
  rw [place hb (by omega)] at hp ⊢
  have hlt:b+a<l.length:=by
    split at hp
    ·assumption
    ·omega
  rw [if_pos hlt] at hp ⊢
  apply List.ext_getElem?
  intro i
  by_cases hi:i<k
  ·rw [List.getElem?_take,if_pos hi,List.getElem?_drop,zae hb (by omega) hh]
   split
   ·rw [List.getElem?_append_left (by simp;omega),List.getElem?_take,if_pos (by omega),List.getElem?_drop]
    congr 1;omega
   ·rw [List.getElem?_append_right (by simp;omega),List.getElem?_take,if_pos (by simp;omega)]
    congr 1;simp;omega
  ·rw [List.getElem?_eq_none (by simp;omega),List.getElem?_eq_none (by simp;omega)]
theorem zp4 {l:List UInt8} {b h k:Nat} (hb:b<l.length) (hh:h≤l.length) (hk:k≤h):zk l ((b+k)%l.length) (h-k)=(zk l b h).drop k:=by
  have hp:(b+k)%l.length<l.length:=Nat.mod_lt _ (by omega)
  have hpl:=place hb (show k≤l.length by omega)
  generalize (b+k)%l.length=p at hp hpl ⊢
  apply List.ext_getElem?
  intro i
  by_cases hi:i<h-k
  ·rw [List.getElem?_drop,zae hp hi (by omega),zae hb (by omega) hh]
   by_cases h1:b+k<l.length
   ·rw [if_pos h1] at hpl
    subst hpl
    by_cases h2:b+k+i<l.length
    ·rw [if_pos h2,if_pos (by omega)];congr 1;omega
    ·rw [if_neg h2,if_neg (by omega)];congr 1;omega
   ·rw [if_neg h1] at hpl
    subst hpl
    rw [if_pos (by omega),if_neg (by omega)]
    congr 1;omega
  ·rw [zcm (by omega) (by omega) (by omega),List.getElem?_drop,zcm (by omega) (by omega) hh]
theorem zwt {l l' s:List UInt8} {b h:Nat} (hb:b<l.length) (hs:h+s.length≤l.length) (hl:l'.length=l.length)
    (hw: ∀i,i<l.length→l'[i]?=if (i+l.length-(b+h)%l.length)%l.length<s.length then s[(i+l.length-(b+h)%l.length)%l.length]? else l[i]?):
    zk l' b (h+s.length)=zk l b h++s:=by
  have hpl:=place hb (show h≤l.length by omega)
  apply List.ext_getElem?
  intro i
  by_cases hi:i<h+s.length
  ·rw [zae (by omega) hi (by omega),hl]
   have hq: ∀q,q<l.length→q=(if b+i<l.length then b+i else b+i-l.length)→l'[q]?=(zk l b h++s)[i]?:=by
     intro q hq he
     rw [hw q hq]
     by_cases hih:i<h
     ·rw [List.getElem?_append_left (by rw [xt (by omega) (by omega)];exact hih),zae hb hih (by omega)]
      have: ¬(q+l.length-(b+h)%l.length)%l.length<s.length:=by
        rw [hpl]
        split at he<;>split<;>subst he
        ·rw [Nat.mod_eq_of_lt (by omega)];omega
        ·by_cases h3:b+i+l.length-(b+h-l.length)<l.length
         ·omega
         ·rw [Nat.mod_eq_sub_mod (by omega),Nat.mod_eq_of_lt (by omega)];omega
        ·omega
        ·rw [Nat.mod_eq_of_lt (by omega)];omega
      rw [if_neg this]
      split at he<;>rename_i h4
      ·rw [if_pos h4,he]
      ·rw [if_neg h4,he]
     ·rw [List.getElem?_append_right (by rw [xt (by omega) (by omega)];omega),xt (by omega) (by omega)]
      have:(q+l.length-(b+h)%l.length)%l.length=i-h:=by
        rw [hpl]
        split at he<;>split<;>subst he
        ·rw [Nat.mod_eq_sub_mod (by omega),Nat.mod_eq_of_lt (by omega)];omega
        ·omega
        ·rw [Nat.mod_eq_of_lt (by omega)];omega
        ·rw [Nat.mod_eq_sub_mod (by omega),Nat.mod_eq_of_lt (by omega)];omega
      rw [this,if_pos (by omega)]
   split
   ·rename_i h5;exact hq _ h5 (by rw [if_pos h5])
   ·rename_i h5;exact hq _ (by omega) (by rw [if_neg h5])
  ·rw [zcm (by omega) (by omega) (by omega),List.getElem?_eq_none (by rw [List.length_append,xt (by omega) (by omega)];omega)]
end Go.Sym.Ring

namespace Go.Sym.Ring
open Go Go.Sym Go.Sym.Lp
set_option maxRecDepth 100000
def ym (n c m:Nat) (l:List UInt8) (b h:Int):Prop:=n=c∧m=n∧l.length=n∧1≤n∧n≤1048576∧0≤b∧b<n∧0≤h∧h≤n
theorem zob {l:List UInt8} {n:Nat} {b h a k:Int} (hl:l.length=n) (hb:0≤b) (hb':b<n) (hh:0≤h) (hh':h≤n) (ha:0≤a) (hk:0≤k) (hak:k≤h-a) (hp:(b+a).tmod n+k≤n):
    (l.drop (off [(slO ((b+a).tmod n+k).toNat ((b+a).tmod n).toNat,1)])).take (((b+a).tmod n+k).toNat-((b+a).tmod n).toNat)=((zk l b.toNat h.toNat).drop a.toNat).take k.toNat:=by
  have hm0:0≤(b+a).tmod n:=Int.tmod_nonneg _ (by omega)
  have e0:((b+a).tmod n).toNat=(b.toNat+a.toNat)%n:=by rw [zcy (by omega)];congr 1;omega
  have e1:((b+a).tmod n+k).toNat-((b+a).tmod n).toNat=k.toNat:=by omega
  rw [e1]
  by_cases h0:k=0
  ·subst h0;simp
  ·rw [yy (by omega),e0]
   simp only [off,zil,Nat.add_zero]
   subst hl
   exact z1q (by omega) (by omega) (by omega) (by omega)
theorem zop {l:List UInt8} {n:Nat} {b h a k:Int} (hl:l.length=n) (hb:0≤b) (hb':b<n) (hh:0≤h) (hh':h≤n) (ha:0≤a) (hk:0≤k) (hak:k≤h-a) (hp: ¬(b+a).tmod n+k≤n):
    (l.drop (off [(slO n ((b+a).tmod n).toNat,1)])).take (n-((b+a).tmod n).toNat)++(l.drop (off [])).take (k-n+(b+a).tmod n).toNat=((zk l b.toNat h.toNat).drop a.toNat).take k.toNat:=by
  have hm0:0≤(b+a).tmod n:=Int.tmod_nonneg _ (by omega)
  have hm1:(b+a).tmod n<n:=Int.tmod_lt_of_pos _ (by omega)
  have e0:((b+a).tmod n).toNat=(b.toNat+a.toNat)%n:=by rw [zcy (by omega)];congr 1;omega
  have e1:(k-n+(b+a).tmod n).toNat=k.toNat-(n-((b+a).tmod n).toNat):=by omega
  rw [e1,yy (by omega),e0]
  simp only [off,zil,Nat.add_zero,List.drop_zero]
  subst hl
  exact z2z (by omega) (by omega) (by omega) (by omega)
theorem xd {α:Type} {l m:List α} {i:Nat} (h:i+m.length≤l.length):(zw l i m).length=l.length:=by
  simp [zw];omega
theorem zbr {α:Type} {l m:List α} {i:Nat} (h:i+m.length≤l.length) (j:Nat):(zw l i m)[j]?=if i≤j∧j<i+m.length then m[j-i]? else l[j]?:=by
  unfold zw
  by_cases h1:j<i
  ·rw [if_neg (by omega),List.append_assoc,List.getElem?_append_left (by simp;omega),List.getElem?_take,if_pos h1]
  ·by_cases h2:j<i+m.length
   ·rw [if_pos (by omega),List.getElem?_append_left (by simp;omega),List.getElem?_append_right (by simp;omega)]
    congr 1;simp<;>omega
   ·rw [if_neg (by omega),List.getElem?_append_right (by simp;omega),List.getElem?_drop]
    congr 1;simp<;>omega
theorem z4f {l s:List UInt8} {n:Nat} {b h k:Int} (hl:l.length=n) (hb:0≤b) (hb':b<n) (hh:0≤h) (hh':h≤n) (hk:0≤k) (hks:k≤s.length) (hkn:k≤n-h) (hp:(b+h).tmod n+k≤n):
    (zw l (off [(slO ((b+h).tmod n+k).toNat ((b+h).tmod n).toNat,1)]) (List.take (min (List.take k.toNat s).length (((b+h).tmod n+k).toNat-((b+h).tmod n).toNat)) (List.take k.toNat s))).length=n∧
    zk (zw l (off [(slO ((b+h).tmod n+k).toNat ((b+h).tmod n).toNat,1)]) (List.take (min (List.take k.toNat s).length (((b+h).tmod n+k).toNat-((b+h).tmod n).toNat)) (List.take k.toNat s))) b.toNat (h+k).toNat=zk l b.toNat h.toNat++s.take k.toNat:=by
  have hm0:0≤(b+h).tmod n:=Int.tmod_nonneg _ (by omega)
  have hm1:(b+h).tmod n<n:=Int.tmod_lt_of_pos _ (by omega)
  have e0:((b+h).tmod n).toNat=(b.toNat+h.toNat)%n:=by rw [zcy (by omega)];congr 1;omega
  have e1:((b+h).tmod n+k).toNat-((b+h).tmod n).toNat=k.toNat:=by omega
  have e2:(h+k).toNat=h.toNat+(s.take k.toNat).length:=by simp;omega
  have e3:List.take (min (List.take k.toNat s).length k.toNat) (List.take k.toNat s)=s.take k.toNat:=by
    rw [List.take_of_length_le];simp<;>omega
  rw [e1,e3,e2]
  by_cases h0:k=0
  ·subst h0
   simp only [Int.toNat_zero,List.take_zero,List.append_nil,List.length_nil,Nat.add_zero]
   have:zw l (off [(slO ((b+h).tmod n+0).toNat ((b+h).tmod n).toNat,1)]) []=l:=by simp [zw]
   rw [this];exact ⟨hl,rfl⟩
  ·rw [yy (by omega),e0]
   have hoff:off [((b.toNat+h.toNat)%n,1)]=(b.toNat+h.toNat)%n:=by simp [off,zil]
   rw [hoff]
   have hlen:(s.take k.toNat).length=k.toNat:=by simp;omega
   have hfit:(b.toNat+h.toNat)%n+(s.take k.toNat).length≤l.length:=by omega
   refine ⟨by rw [xd hfit,hl],?_⟩
   subst hl
   refine zwt (by omega) (by omega) (xd hfit) fun i hi=>?_
   rw [zbr hfit]
   have hpl:=place (n:=l.length) (b:=b.toNat) (a:=h.toNat) (by omega) (by omega)
   generalize (b.toNat+h.toNat)%l.length=p at*
   by_cases hpi:p≤i
   ·have:(i+l.length-p)%l.length=i-p:=by rw [Nat.mod_eq_sub_mod (by omega),Nat.mod_eq_of_lt (by omega)];omega
    rw [this]
    by_cases h3:i<p+(s.take k.toNat).length
    ·rw [if_pos ⟨hpi,h3⟩,if_pos (by omega)]
    ·rw [if_neg (by omega),if_neg (by omega)]
   ·have:(i+l.length-p)%l.length=i+l.length-p:=Nat.mod_eq_of_lt (by omega)
    rw [this,if_neg (by omega),if_neg (by omega)]
theorem zrd {l s:List UInt8} {n:Nat} {b h k:Int} (hl:l.length=n) (hb:0≤b) (hb':b<n) (hh:0≤h) (hh':h≤n) (hk:0≤k) (hks:k≤s.length) (hkn:k≤n-h) (hp: ¬(b+h).tmod n+k≤n):
    off []+min (List.take (k.toNat-((min (List.take k.toNat s).length (n-((b+h).tmod n).toNat):Nat):Int).toNat) (List.drop ((min (List.take k.toNat s).length (n-((b+h).tmod n).toNat):Nat):Int).toNat s)).length (k-n+(b+h).tmod n).toNat≤
      (zw l (off [(slO n ((b+h).tmod n).toNat,1)]) (List.take (min (List.take k.toNat s).length (n-((b+h).tmod n).toNat)) (List.take k.toNat s))).length:=by
  have hm0:0≤(b+h).tmod n:=Int.tmod_nonneg _ (by omega)
  have hm1:(b+h).tmod n<n:=Int.tmod_lt_of_pos _ (by omega)
  rw [xd]
  ·simp only [off,List.length_take,List.length_drop];omega
  ·rw [yy (by omega)]
   simp only [off,zil,List.length_take];omega
theorem z56 {l s:List UInt8} {n:Nat} {b h k:Int} (hl:l.length=n) (hb:0≤b) (hb':b<n) (hh:0≤h) (hh':h≤n) (hk:0≤k) (hks:k≤s.length) (hkn:k≤n-h) (hp: ¬(b+h).tmod n+k≤n):
    (zw (zw l (off [(slO n ((b+h).tmod n).toNat,1)]) (List.take (min (List.take k.toNat s).length (n-((b+h).tmod n).toNat)) (List.take k.toNat s))) (off []) (List.take (min (List.take (k.toNat-((min (List.take k.toNat s).length (n-((b+h).tmod n).toNat):Nat):Int).toNat) (List.drop ((min (List.take k.toNat s).length (n-((b+h).tmod n).toNat):Nat):Int).toNat s)).length (k-n+(b+h).tmod n).toNat) (List.take (k.toNat-((min (List.take k.toNat s).length (n-((b+h).tmod n).toNat):Nat):Int).toNat) (List.drop ((min (List.take k.toNat s).length (n-((b+h).tmod n).toNat):Nat):Int).toNat s)))).length=n∧zk (zw (zw l (off [(slO n ((b+h).tmod n).toNat,1)]) (List.take (min (List.take k.toNat s).length (n-((b+h).tmod n).toNat)) (List.take k.toNat s))) (off []) (List.take (min (List.take (k.toNat-((min (List.take k.toNat s).length (n-((b+h).tmod n).toNat):Nat):Int).toNat) (List.drop ((min (List.take k.toNat s).length (n-((b+h).tmod n).toNat):Nat):Int).toNat s)).length (k-n+(b+h).tmod n).toNat) (List.take (k.toNat-((min (List.take k.toNat s).length (n-((b+h).tmod n).toNat):Nat):Int).toNat) (List.drop ((min (List.take k.toNat s).length (n-((b+h).tmod n).toNat):Nat):Int).toNat s)))) b.toNat (h+k).toNat=zk l b.toNat h.toNat++s.take k.toNat:=by
  have hm0:0≤(b+h).tmod n:=Int.tmod_nonneg _ (by omega)
  have hm1:(b+h).tmod n<n:=Int.tmod_lt_of_pos _ (by omega)
  have e0:((b+h).tmod n).toNat=(b.toNat+h.toNat)%n:=by rw [zcy (by omega)];congr 1;omega
  have hpp:(b.toNat+h.toNat)%n<n:=Nat.mod_lt _ (by omega)
  have hpk:n<(b.toNat+h.toNat)%n+k.toNat:=by omega
  have e5:(k-n+(b+h).tmod n).toNat=k.toNat-(n-(b.toNat+h.toNat)%n):=by omega
  have e2:(h+k).toNat=h.toNat+(s.take k.toNat).length:=by simp;omega
  rw [e5,yy (by omega),e0,e2]
  have hoff:off [((b.toNat+h.toNat)%n,1)]=(b.toNat+h.toNat)%n:=by simp [off,zil]
  have hpl:=place (n:=n) (b:=b.toNat) (a:=h.toNat) (by omega) (by omega)
  have hks':k.toNat≤s.length:=by omega
  have hkn':k.toNat≤n-h.toNat:=by omega
  have hhn:h.toNat≤n:=by omega
  have hbn:b.toNat<n:=by omega
  rw [hoff]
  generalize k.toNat=k' at*
  generalize h.toNat=h' at*
  generalize b.toNat=b' at*
  have e3:(min (List.take k' s).length (n-(b'+h')%n))=n-(b'+h')%n:=by simp;omega
  rw [e3]
  have e4:((n-(b'+h')%n:Nat):Int).toNat=n-(b'+h')%n:=Int.toNat_natCast _
  rw [e4]
  have e6:off []=0:=rfl
  rw [e6]
  generalize hq:(b'+h')%n=p at*
  have f1:(List.take (n-p) (List.take k' s)).length=n-p:=by simp;omega
  have f2:(List.take (min (List.take (k'-(n-p)) (List.drop (n-p) s)).length (k'-(n-p))) (List.take (k'-(n-p)) (List.drop (n-p) s))).length=k'-(n-p):=by simp;omega
  have g1:p+(List.take (n-p) (List.take k' s)).length≤l.length:=by omega
  have g2:0+(List.take (min (List.take (k'-(n-p)) (List.drop (n-p) s)).length (k'-(n-p))) (List.take (k'-(n-p)) (List.drop (n-p) s))).length≤(zw l p (List.take (n-p) (List.take k' s))).length:=by
    rw [xd g1];omega
  have hlen:(s.take k').length=k':=by simp;omega
  refine ⟨by rw [xd g2,xd g1,hl],?_⟩
  subst hl
  refine zwt (by omega) (by omega) (by rw [xd g2,xd g1]) fun i hi=>?_
  rw [hq,zbr g2,zbr g1,f1,f2,hlen]
  by_cases hpi:p≤i
  ·have:(i+l.length-p)%l.length=i-p:=by rw [Nat.mod_eq_sub_mod (by omega),Nat.mod_eq_of_lt (by omega)];omega
   rw [this,if_neg (by omega),if_pos (by omega),if_pos (by omega),List.getElem?_take,if_pos (by omega)]
  ·have:(i+l.length-p)%l.length=i+l.length-p:=Nat.mod_eq_of_lt (by omega)
   rw [this]
   by_cases h3:i<k'-(l.length-p)
   ·rw [if_pos (by omega),if_pos (by omega),List.getElem?_take,if_pos (by simp;omega),List.getElem?_take,if_pos (by omega),List.getElem?_drop,List.getElem?_take,if_pos (by omega)]
    congr 1;omega
   ·rw [if_neg (by omega),if_neg (by omega),if_neg (by omega)]
end Go.Sym.Ring

namespace Go.Sym.Z
open Go Go.Proofs.Tryz Go.Sym.Lp Go.Sym.Ring
set_option maxRecDepth 100000
def yct:List (Nat×List PStep):= [(3,[⟨0,[]⟩,⟨1,[]⟩,⟨2,[]⟩,⟨3,[]⟩,⟨4,[]⟩,⟨5,[0,1,2,3,4]⟩,⟨6,[0,1,2,3,4]⟩,⟨7,[0,1,2,3,4]⟩,⟨8,[0,1,2,3,4]⟩,⟨9,[]⟩,⟨10,[]⟩])]
def yc8:List (Nat×List PStep):= [(4,[⟨0,[]⟩,⟨1,[]⟩,⟨2,[]⟩,⟨3,[]⟩,⟨4,[0,1,2,3]⟩,⟨5,[]⟩,⟨6,[0,1,2,3,4,5]⟩,⟨7,[0,1,2,3,4,5]⟩,⟨8,[0,1,2,3,4,5]⟩,⟨9,[0,1,2,3,4,5]⟩,⟨10,[0,1,2,3,4,5,6,7,8,9]⟩,⟨11,[0,1,2,3,4,5,6,7,8,9,10]⟩,⟨12,[0,1,2,3,4,5,6,7,8,9,10]⟩,⟨13,[0,1,2,3,4,5,6,7,8,9,10]⟩,⟨14,[0,1,2,3,4,5,6,7,8,9,10]⟩,⟨15,[0,1,2,3,4,5,6,7,8,9,10]⟩,⟨16,[0,1,2,3,4,5,6,7,8,9]⟩,⟨17,[0,1,2,3,4,5,6,7,8,9,10,11,12,13,14,15,16]⟩,⟨18,[0,1,2,3,4,5,6,7,8,9]⟩,⟨19,[0,1,2,3,4,5,6,7,8,9,10,11,12,13,14,15,16,17,18]⟩,⟨20,[0,1,2,3,4,5,6,7,8,9,10,11,12,13,14,15,16,17,18,19]⟩,⟨21,[0,1,2,3,4,5,6,7,8,9,10,11,12,13,14,15,16,17,18,19]⟩,⟨22,[0,1,2,3,4,5,6,7,8,9,10,11,12,13,14,15,16,17,18,19]⟩,⟨23,[0,1,2,3,4,5,6,7,8,9,10,11,12,13,14,15,16,17,18,19]⟩,⟨24,[0,1,2,3,4,5,6,7,8,9,10,11,12,13,14,15,16,17,18,19]⟩,⟨25,[0,1,2,3,4,5,6,7,8,9,10,11,12,13,14,15,16,17,18]⟩,⟨26,[0,1,2,3,4,5,6,7,8,9,10,11,12,13,14,15,16,17,18,19,20,21,22,23,24,25]⟩,⟨27,[0,1,2,3,4,5,6,7,8,9,10,11,12,13,14,15,16,17,18]⟩,⟨28,[0,1,2,3,4,5]⟩,⟨29,[6,7,8,9,10,11,12,13,14,15,16,17,18,19,20,21,22,23,24,25,26,27,28]⟩,⟨30,[]⟩])]
def ycn:List (Nat×List PStep):= [(0,[⟨0,[]⟩,⟨1,[0]⟩,⟨2,[0]⟩,⟨3,[0]⟩,⟨4,[0]⟩,⟨5,[0,1,2,3,4]⟩,⟨6,[0]⟩,⟨7,[0,1,2,3,4,5,6]⟩,⟨8,[0,1,2,3,4,5,6]⟩,⟨9,[0,1,2,3,4,5,6]⟩,⟨10,[0,1,2,3,4,5,6]⟩,⟨11,[0,1,2,3,4,5,6]⟩,⟨12,[0]⟩,⟨13,[]⟩,⟨14,[]⟩,⟨15,[]⟩])]
def z91:List (Nat×List PStep):= []
def yca:List (Nat×List PStep):= [(4,[⟨0,[]⟩,⟨1,[0]⟩,⟨2,[0]⟩,⟨3,[0]⟩,⟨4,[0]⟩,⟨5,[0,1,2,3,4]⟩,⟨6,[0,1,2,3,4]⟩,⟨7,[0,1,2,3,4]⟩,⟨8,[0,1,2,3,4]⟩,⟨9,[0]⟩,⟨10,[0,1,2,3,4,5,6,7,8,9]⟩,⟨11,[]⟩,⟨12,[]⟩,⟨13,[]⟩,⟨14,[13]⟩,⟨15,[14]⟩,⟨16,[]⟩])]
def yb4:List (Nat×List PStep):= []
def ya0:List (Nat×List PStep):= []
def ydd:List (Nat×List PStep):= []
def yb8:List (Nat×List PStep):= []
def ycm:List (Nat×TyI):= [(3,ty3),(4,ty4),(5,ty5),(9,ty9),(48,zcp),(51,zco),(113,x4),(99,x3),(121,zc3),(93,zhk)]
theorem zcl: ∀t i,y3 ycm t=some i→yp prog t i:=(zc ty3_ok (zc zbm (zc zbe (zc ty9_ok (zc zak (zc zam (zc zai (zc za7 (zc zfj (zc zim x1))))))))))
def z0s:Spec:=fun args hp K=>match args,hp with
  | [.ptr 0 0 0 []],[.mk t [.sl 1 0 0 [] n c,.int b,.int h],.mk u [.arr8 m l]]=>K (.int h) [.mk t [.sl 1 0 0 [] n c,.int b,.int h],.mk u [.arr8 m l]]
  |_,_=>False
theorem z2q:zp prog 60 z0s:=by
  refine zn zcl zl rfl func60 rfl call60 (D:=ydd) ?_ ?_
  ·intro args hp K h
   unfold z0s at h
   split at h
   ·exact Nat.le_of_ble_eq_true rfl
   ·exact h.elim
  ·intro args hp K h
   unfold z0s at h
   split at h
   ·refine za ?_
    exact zh [0,1] h
   ·exact h.elim
def zt2:Spec:=fun args hp K=>match args,hp with
  | [.ptr 0 0 0 []],[.mk t [.sl 1 0 0 [] n c,.int b,.int h],.mk u [.arr8 m l]]=>Pre (ym n c m l b h) (K (.int (n-h)) [.mk t [.sl 1 0 0 [] n c,.int b,.int h],.mk u [.arr8 m l]])
  |_,_=>False
theorem z5u:zp prog 80 zt2:=by
  refine zn zcl zl rfl func80 rfl call80 (D:=yct) ?_ ?_
  ·intro args hp K h
   unfold zt2 at h
   split at h
   ·exact Nat.le_of_ble_eq_true rfl
   ·exact h.elim
  ·intro args hp K h
   unfold zt2 at h
   split at h
   ·rename_i t n c b hh u m l
    obtain ⟨h0,h⟩:=zm h
    unfold ym at h0
    refine za ?_
    exact zh [0,1] h
   ·exact h.elim
def zpc:Spec:=fun args hp K=>match args,hp with
  | [.ptr 0 0 0 [],.int a,.int k],[.mk t [.sl 1 0 0 [] n c,.int b,.int h],.mk u [.arr8 m l]]=>
    Pre (ym n c m l b h∧0≤a∧0≤k∧k≤n∧a≤1048576*4)
      (zv (decide (a.tmod n+k≤n))
        (K (.tup [.sl 1 0 0 [(slO (a.tmod n+k).toNat (a.tmod n).toNat,1)] ((a.tmod n+k).toNat-(a.tmod n).toNat) ((a.tmod n+k).toNat-(a.tmod n).toNat),.nilsl]) [.mk t [.sl 1 0 0 [] n c,.int b,.int h],.mk u [.arr8 m l]])
        (K (.tup [.sl 1 0 0 [(slO c (a.tmod n).toNat,1)] (n-(a.tmod n).toNat) (c-(a.tmod n).toNat),.sl 1 0 0 [] (k-n+a.tmod n).toNat (k-n+a.tmod n).toNat]) [.mk t [.sl 1 0 0 [] n c,.int b,.int h],.mk u [.arr8 m l]]))
  |_,_=>False
theorem zlj:zp prog 81 zpc:=by
  refine zn zcl zl rfl func81 rfl call81 (D:=yc8) ?_ ?_
  ·intro args hp K h
   unfold zpc at h
   split at h
   ·exact Nat.le_of_ble_eq_true rfl
   ·exact h.elim
  ·intro args hp K h
   unfold zpc at h
   split at h
   ·rename_i a k t n c b hh u m l
    obtain ⟨⟨h0,h1⟩,h⟩:=zm h
    unfold ym at h0
    obtain ⟨ht,hf⟩:=zt h
    have hm0:0≤a.tmod n:=Int.tmod_nonneg _ (by omega)
    have hm1:a.tmod n<n:=Int.tmod_lt_of_pos _ (by omega)
    by_cases hc:a.tmod n+k≤n
    ·have h:=ht (decide_eq_true hc)
     refine za ?_
     exact zh [0,1] h
    ·have h:=hf (decide_eq_false hc)
     refine za ?_
     exact zh [0,1] h
   ·exact h.elim
def zue:Spec:=fun args hp K=>match args,hp with
  | [.ptr 0 0 0 [],.int k],[.mk t [.sl 1 0 0 [] n c,.int b,.int h],.mk u [.arr8 m l]]=>
    Pre (ym n c m l b h∧0≤k∧k≤h) (K (.tup []) [.mk t [.sl 1 0 0 [] n c,.int ((b+k).tmod n),.int (h-k)],.mk u [.arr8 m l]])
  |_,_=>False
theorem z50:zp prog 84 zue:=by
  refine zn zcl zl rfl func84 rfl call84 (D:=ycn) ?_ ?_
  ·intro args hp K h
   unfold zue at h
   split at h
   ·exact Nat.le_of_ble_eq_true rfl
   ·exact h.elim
  ·intro args hp K h
   unfold zue at h
   split at h
   ·rename_i k t n c b hh u m l
    obtain ⟨⟨h0,h1⟩,h⟩:=zm h
    unfold ym at h0
    refine za ?_
    exact zh [0,1] h
   ·exact h.elim
def zs8:Spec:=fun args hp K=>match args,hp with
  | [.ptr 0 0 0 [],.int a,.int k],[.mk t [.sl 1 0 0 [] n c,.int b,.int h],.mk u [.arr8 m l]]=>
    Pre (ym n c m l b h) (K (.bool (decide (0≤a∧0≤k∧a≤h∧k≤h-a))) [.mk t [.sl 1 0 0 [] n c,.int b,.int h],.mk u [.arr8 m l]])
  |_,_=>False
theorem zvy:zp prog 109 zs8:=by
  refine zn zcl zl rfl func109 rfl call109 (D:=z91) ?_ ?_
  ·intro args hp K h
   unfold zs8 at h
   split at h
   ·exact Nat.le_of_ble_eq_true rfl
   ·exact h.elim
  ·intro args hp K h
   unfold zs8 at h
   split at h
   ·rename_i a k t n c b hh u m l
    obtain ⟨h0,h⟩:=zm h
    unfold ym at h0
    by_cases h1:0≤a
    ·by_cases h2:0≤k
     ·by_cases h3:a≤hh
      ·have e:decide (0≤a∧0≤k∧a≤hh∧k≤hh-a)=decide (k≤hh-a):=by
         by_cases h4:k≤hh-a
         ·rw [decide_eq_true h4,decide_eq_true ⟨h1,h2,h3,h4⟩]
         ·rw [decide_eq_false h4,decide_eq_false fun hh=>h4 hh.2.2.2]
       rw [e] at h
       refine za ?_
       exact zh [0,1] h
      ·rw [decide_eq_false fun hh=>h3 hh.2.2.1] at h
       refine za ?_
       exact zh [0,1] h
     ·rw [decide_eq_false fun hh=>h2 hh.2.1] at h
      refine za ?_
      exact zh [0,1] h
    ·rw [decide_eq_false fun hh=>h1 hh.1] at h
     refine za ?_
     exact zh [0,1] h
   ·exact h.elim
def zs2:Spec:=fun args hp K=>match args,hp with
  | [.int z],[]=>Pre (1≤z∧z≤262144) (K (.tup [.ptr 0 0 0 [],.int 0]) [.mk 121 [.sl 1 0 0 [] z.toNat z.toNat,.int 0,.int 0],.mk 5 [.arr8 z.toNat (List.replicate z.toNat 0)]])
  |_,_=>False
theorem z4i:zp prog 57 zs2:=by
  refine zn zcl zl rfl func57 rfl call57 (D:=yb8) ?_ ?_
  ·intro args hp K h
   unfold zs2 at h
   split at h
   ·exact Nat.le_of_ble_eq_true rfl
   ·exact h.elim
  ·intro args hp K h
   unfold zs2 at h
   split at h
   ·rename_i z
    obtain ⟨h0,h⟩:=zm h
    refine za ?_
    exact zh [1,0] h
   ·exact h.elim
def zs9:Spec:=fun args hp K=>match args,hp with
  | [.ptr 0 0 0 [],.int a,.int k],[.mk t [.sl 1 0 0 [] n c,.int b,.int h],.mk u [.arr8 m l]]=>
    Pre (ym n c m l b h) (zv (decide (0≤a∧0≤k∧a≤h∧k≤h-a))
      (K (.tup [.str (((zk l b.toNat h.toNat).drop a.toNat).take k.toNat),.int 0]) [.mk t [.sl 1 0 0 [] n c,.int b,.int h],.mk u [.arr8 m l]])
      (K (.tup [.str [],.int 2200]) [.mk t [.sl 1 0 0 [] n c,.int b,.int h],.mk u [.arr8 m l]]))
  |_,_=>False
theorem zwp:zp prog 82 zs9:=by
  refine zn zcl (zd zvy (zd zlj zl)) rfl func82 rfl call82 (D:=yb4) ?_ ?_
  ·intro args hp K h
   unfold zs9 at h
   split at h
   ·exact Nat.le_of_ble_eq_true rfl
   ·exact h.elim
  ·intro args hp K h
   unfold zs9 at h
   split at h
   ·rename_i a k t n c b hh u m l
    obtain ⟨h0',h⟩:=zm h
    have h0:=h0'
    unfold ym at h0
    obtain ⟨ht,hf⟩:=zt h
    by_cases hc:0≤a∧0≤k∧a≤hh∧k≤hh-a
    ·have h:=ht (decide_eq_true hc)
     have dc:=decide_eq_true hc
     have hm0:0≤(b+a).tmod n:=Int.tmod_nonneg _ (by omega)
     have hm1:(b+a).tmod n<n:=Int.tmod_lt_of_pos _ (by omega)
     by_cases hd:(b+a).tmod n+k≤n
     ·have hs:=ze4 ((b+a).tmod n+k).toNat ((b+a).tmod n).toNat
      repeat ((conv=>whnf);first|refine zo ?_|refine zf ?_|refine zg ?_|refine zb ?_|refine zr (by first|exact dc|(rw [dc];rfl)) ?_|refine zi (by first|exact dc|(rw [dc];rfl)) ?_|refine zj (by first|exact dc|(rw [dc];rfl)) ?_)
      conv=>whnf
      refine yv (hp':= [.mk t [.sl 1 0 0 [] n c,.int b,.int hh],.mk u [.arr8 m l]]) [0,1] h ?_
      repeat ((conv=>whnf);refine zb ?_)
      conv=>whnf
      exact zx (by rw [zob (n:=n) (h:=hh) (by omega) (by omega) (by omega) (by omega) (by omega) (by omega) (by omega) (by omega) hd,List.append_nil];rfl)
     ·have hs:=ze4 c ((b+a).tmod n).toNat
      have hcn:c=n:=by omega
      subst hcn
      repeat ((conv=>whnf);first|refine zo ?_|refine zf ?_|refine zg ?_|refine zb ?_|refine zr (by first|exact dc|(rw [dc];rfl)) ?_|refine zi (by first|exact dc|(rw [dc];rfl)) ?_|refine zj (by first|exact dc|(rw [dc];rfl)) ?_)
      conv=>whnf
      refine yv (hp':= [.mk t [.sl 1 0 0 [] c c,.int b,.int hh],.mk u [.arr8 m l]]) [0,1] h ?_
      repeat ((conv=>whnf);refine zb ?_)
      conv=>whnf
      exact zx (by rw [zop (h:=hh) (by omega) (by omega) (by omega) (by omega) (by omega) (by omega) (by omega) (by omega) hd];rfl)
    ·have h:=hf (decide_eq_false hc)
     have dc:=decide_eq_false hc
     repeat ((conv=>whnf);first|refine zo ?_|refine zf ?_|refine zg ?_|refine zb ?_|refine zr (by first|exact dc|(rw [dc];rfl)) ?_|refine zi (by first|exact dc|(rw [dc];rfl)) ?_|refine zj (by first|exact dc|(rw [dc];rfl)) ?_)
     conv=>whnf
     exact zh [0,1] h
   ·exact h.elim
def zkw:Spec:=fun args hp K=>match args,hp with
  | [.ptr 0 0 0 [],.int a,.int k],[.mk t [.sl 1 0 0 [] n c,.int b,.int h],.mk u [.arr8 m l]]=>
    Pre (ym n c m l b h∧0≤a∧0≤k∧a≤h∧k≤h-a)
      (zv (decide ((b+a).tmod n+k≤n))
        (K (.tup [.sl 1 0 0 [(slO ((b+a).tmod n+k).toNat ((b+a).tmod n).toNat,1)] (((b+a).tmod n+k).toNat-((b+a).tmod n).toNat) (((b+a).tmod n+k).toNat-((b+a).tmod n).toNat),.nilsl]) [.mk t [.sl 1 0 0 [] n c,.int b,.int h],.mk u [.arr8 m l]])
        (K (.tup [.sl 1 0 0 [(slO c ((b+a).tmod n).toNat,1)] (n-((b+a).tmod n).toNat) (c-((b+a).tmod n).toNat),.sl 1 0 0 [] (k-n+(b+a).tmod n).toNat (k-n+(b+a).tmod n).toNat]) [.mk t [.sl 1 0 0 [] n c,.int b,.int h],.mk u [.arr8 m l]]))
  |_,_=>False
theorem z1g:zp prog 110 zkw:=by
  refine zn zcl (zd zvy (zd zlj zl)) rfl func110 rfl call110 (D:=ya0) ?_ ?_
  ·intro args hp K h
   unfold zkw at h
   split at h
   ·exact Nat.le_of_ble_eq_true rfl
   ·exact h.elim
  ·intro args hp K h
   unfold zkw at h
   split at h
   ·rename_i a k t n c b hh u m l
    obtain ⟨⟨h0',hc⟩,h⟩:=zm h
    have h0:=h0'
    unfold ym at h0
    have dc:=decide_eq_true hc
    obtain ⟨ht,hf⟩:=zt h
    by_cases hd:(b+a).tmod n+k≤n
    ·have h:=ht (decide_eq_true hd)
     repeat ((conv=>whnf);first|refine zo ?_|refine zf ?_|refine zg ?_|refine zb ?_|refine zr (by first|exact dc|(rw [dc];rfl)) ?_|refine zi (by first|exact dc|(rw [dc];rfl)) ?_|refine zj (by first|exact dc|(rw [dc];rfl)) ?_)
     conv=>whnf
     exact zh [0,1] h
    ·have h:=hf (decide_eq_false hd)
     repeat ((conv=>whnf);first|refine zo ?_|refine zf ?_|refine zg ?_|refine zb ?_|refine zr (by first|exact dc|(rw [dc];rfl)) ?_|refine zi (by first|exact dc|(rw [dc];rfl)) ?_|refine zj (by first|exact dc|(rw [dc];rfl)) ?_)
     conv=>whnf
     exact zh [0,1] h
   ·exact h.elim
def zy9:Spec:=fun args hp K=>match args,hp with
  | [.ptr 0 0 0 [],.str s],[.mk t [.sl 1 0 0 [] n c,.int b,.int h],.mk u [.arr8 m l]]=>
    Pre (ym n c m l b h∧s.length≤4611686018427387904) (zag fun l':List UInt8=>(l'.length=n∧zk l' b.toNat (h+min (s.length:Int) (n-h)).toNat=zk l b.toNat h.toNat++s.take (min (s.length:Int) (n-h)).toNat)→
      K (.int (min (s.length:Int) (n-h))) [.mk t [.sl 1 0 0 [] n c,.int b,.int (h+min (s.length:Int) (n-h))],.mk u [.arr8 m l']])
  |_,_=>False
set_option maxHeartbeats 4000000 in
theorem z7i:zp prog 59 zy9:=by
  refine zn zcl (zd zlj (zd z5u zl)) rfl func59 rfl call59 (D:=yca) ?_ ?_
  ·intro args hp K h
   unfold zy9 at h
   split at h
   ·exact Nat.le_of_ble_eq_true rfl
   ·exact h.elim
  ·intro args hp K h
   unfold zy9 at h
   split at h
   ·rename_i s t n c b hh u m l
    obtain ⟨⟨h0',hsl⟩,h⟩:=zm h
    have h0:=h0'
    unfold ym at h0
    have h:=xp h
    obtain ⟨km,hkm⟩: ∃km,km=min (s.length:Int) (n-hh):=⟨_,rfl⟩
    rw [←hkm] at h
    have hm0:0≤(b+hh).tmod n:=Int.tmod_nonneg _ (by omega)
    have hm1:(b+hh).tmod n<n:=Int.tmod_lt_of_pos _ (by omega)
    refine za ?_
    rw [←hkm]
    by_cases hd:(b+hh).tmod n+km≤n
    ·have hs:=ze4 ((b+hh).tmod n+km).toNat ((b+hh).tmod n).toNat
     refine za ?_
     refine yv (hp':= [.mk t [.sl 1 0 0 [] n c,.int b,.int (hh+km)],.mk u [.arr8 m (zw l (off [(slO ((b+hh).tmod n+km).toNat ((b+hh).tmod n).toNat,1)]) (List.take (min (List.take km.toNat s).length (((b+hh).tmod n+km).toNat-((b+hh).tmod n).toNat)) (List.take km.toNat s)))]]) [0,1] (h _ ?_) ?_
     ·exact z4f (by omega) (by omega) (by omega) (by omega) (by omega) (by omega) (by omega) (by omega) hd
     exact zu
    ·have hs:=ze4 c ((b+hh).tmod n).toNat
     have hcn:c=n:=by omega
     subst hcn
     have hp2:=zrd (l:=l) (s:=s) (n:=c) (b:=b) (h:=hh) (k:=km) (by omega) (by omega) (by omega) (by omega) (by omega) (by omega) (by omega) (by omega) hd
     refine za ?_
     refine yv (hp':= [.mk t [.sl 1 0 0 [] c c,.int b,.int (hh+km)],.mk u [.arr8 m (zw (zw l (off [(slO c ((b+hh).tmod c).toNat,1)]) (List.take (min (List.take km.toNat s).length (c-((b+hh).tmod c).toNat)) (List.take km.toNat s))) (off []) (List.take (min (List.take (km.toNat-((min (List.take km.toNat s).length (c-((b+hh).tmod c).toNat):Nat):Int).toNat) (List.drop ((min (List.take km.toNat s).length (c-((b+hh).tmod c).toNat):Nat):Int).toNat s)).length (km-c+(b+hh).tmod c).toNat) (List.take (km.toNat-((min (List.take km.toNat s).length (c-((b+hh).tmod c).toNat):Nat):Int).toNat) (List.drop ((min (List.take km.toNat s).length (c-((b+hh).tmod c).toNat):Nat):Int).toNat s))))]]) [0,1] (h _ ?_) ?_
     ·exact z56 (by omega) (by omega) (by omega) (by omega) (by omega) (by omega) (by omega) (by omega) hd
     exact zu
   ·exact h.elim
end Go.Sym.Z
