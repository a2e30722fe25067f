/-
  Contracts of functions of the program, each said of symbolic values, and plain laws; no condition beyond each statement's own.
-/
import Derived.Test.YtmmpgjcpielefaaGreatGLStreamActs30
set_option linter.unusedSimpArgs false
set_option linter.unusedVariables false
namespace Go.Sym.Z
open Go Go.Proofs.Tryz Go.Sym.Lp Go.Sym.Ring Go.Sym.Cha Go.Sym.Sha Go.Sym.Hk
set_option maxRecDepth 100000
attribute [local irreducible] x3 exF kyF ivF y6 xq y3 inL ncF hdF lnz iA two zb8 zl
def yjr:List (Nat×List PStep):= []
theorem z8t {l:List UInt8} {a na b nb i:Nat} (ha:a+na≤l.length) (hb:b+nb≤l.length) (hi:i<na+nb):(two l a na b nb).getD i 0=if i<na then l.getD (a+i) 0 else l.getD (b+(i-na)) 0:=by
  unfold two
  have hla:(List.take na (List.drop a l)).length=na:=by rw [List.length_take,List.length_drop];omega
  split
  ·rw [List.getD_eq_getElem?_getD,List.getElem?_append_left (by omega),List.getElem?_take,if_pos (by omega),List.getElem?_drop,←List.getD_eq_getElem?_getD]
  ·rw [List.getD_eq_getElem?_getD,List.getElem?_append_right (by omega),hla,List.getElem?_take,if_pos (by omega),List.getElem?_drop,←List.getD_eq_getElem?_getD]
attribute [local semireducible] lnz
theorem z6z {p:List UInt8} {j:Nat} (h:p.getD j 0=0):lnz p (j+1)=lnz p (j+1-1):=by simp only [lnz];rw [if_pos h];rfl
theorem z7d {p:List UInt8} {j:Nat} (h: ¬p.getD j 0=0):lnz p (j+1)=j+1:=by simp only [lnz];rw [if_neg h]
attribute [local irreducible] lnz
def z9r:Spec:=fun args hp K=>match args,hp with
  | [.int i,.ptr 0 0 0 [],.ptr 2 0 0 []],[.mk ta [.sl 1 0 0 oa na ca],.mk u [.arr8 m l],.mk tb [sb]]=>sbM 1 sb fun ob nb _=>Pre (0≤i∧i<((na+nb:Nat):Int)∧off oa+na≤l.length∧off ob+nb≤l.length∧na+nb≤1000000) (K (.u8 ((two l (off oa) na (off ob) nb).getD i.toNat 0)) [.mk ta [.sl 1 0 0 oa na ca],.mk u [.arr8 m l],.mk tb [sb]])
  |_,_=>False
set_option maxHeartbeats 4000000 in
theorem yfu:zp prog 112 z9r:=by
  refine zm zau zi rfl func112 rfl call112 (D:=yjr) ?_ ?_
  ·intro args hp K h
   unfold z9r at h
   split at h
   ·exact Nat.le_of_ble_eq_true rfl
   ·exact h.elim
  ·intro args hp K h
   unfold z9r at h
   split at h
   ·rename_i i ta oa na ca u m l tb sb
    obtain ⟨ob,nb,cb,hsb,h9⟩:=zq8 h
    clear h
    obtain ⟨⟨h0,h1,ha,hb,hN⟩,h⟩:=zq h9
    clear h9
    have hg:=z8t (i:=i.toNat) ha hb (by omega)
    by_cases hi:i<(na:Int)
    ·rw [if_pos (by omega)] at hg
     have hof:off (yb oa i.toNat ty5.sz)=off oa+i.toNat:=by rw [zy];show _+i.toNat*1=_;omega
     have hp:off (yb oa i.toNat ty5.sz)<l.length:=by omega
     rw [hg,←hof] at h
     rcases hsb with ⟨e1,e2,e3,e4⟩|e1
     case' inl=>subst e1 e2 e3 e4
     case' inr=>subst e1
     all_goals (
       refine za ?_
       refine yr h ?_
       exact zn)
    ·rw [if_neg (by omega)] at hg
     rcases hsb with ⟨e1,e2,e3,e4⟩|e1
     case inl=>omega
     subst e1
     have hz:(i-(na:Int)).toNat=i.toNat-na:=by omega
     have hof:off (yb ob (i-(na:Int)).toNat ty5.sz)=off ob+(i.toNat-na):=by rw [zy,hz];show _+(i.toNat-na)*1=_;omega
     have hp:off (yb ob (i-(na:Int)).toNat ty5.sz)<l.length:=by omega
     rw [hg,←hof] at h
     refine za ?_
     refine yr h ?_
     exact zn
   ·exact h.elim
end Go.Sym.Z

namespace Go.Sym.Z
open Go Go.Proofs.Tryz Go.Sym.Lp Go.Sym.Ring Go.Sym.Cha Go.Sym.Sha Go.Sym.Hk
set_option maxRecDepth 100000
attribute [local irreducible] x3 exF kyF ivF y6 xq y3 inL ncF hdF lnz iA two zb8 zl
def ztt:Spec:=fun args hp K=>match args,hp with
  | [.func 112 [.ptr 0 0 0 [],.ptr 2 0 0 []],.int z],[.mk ta [.sl 1 0 0 oa na ca],.mk u [.arr8 m l],.mk tb [sb]]=>sbM 1 sb fun ob nb _=>Pre (0≤z∧z≤((na+nb:Nat):Int)∧off oa+na≤l.length∧off ob+nb≤l.length∧na+nb≤1000000)
      (ye (decide (iA ((two l (off oa) na (off ob) nb).take z.toNat)= -1)) (K (.tup [.int (iK ((two l (off oa) na (off ob) nb).take z.toNat)),.int ((lnz ((two l (off oa) na (off ob) nb).take z.toNat) ((two l (off oa) na (off ob) nb).take z.toNat).length-1:Nat):Int),.int (-1)]) [.mk ta [.sl 1 0 0 oa na ca],.mk u [.arr8 m l],.mk tb [sb]]) (K (.tup [.int 0,.int 0,.int (iA ((two l (off oa) na (off ob) nb).take z.toNat))]) [.mk ta [.sl 1 0 0 oa na ca],.mk u [.arr8 m l],.mk tb [sb]]))
  |_,_=>False
set_option maxHeartbeats 8000000 in
theorem z4l:zp prog 96 ztt:=by
  refine zm zau (zd yfu zi) rfl func96 rfl call96 (D:=yk7) ?_ ?_
  ·intro args hp K h
   unfold ztt at h
   split at h
   ·exact Nat.le_of_ble_eq_true rfl
   ·exact h.elim
  ·intro args hp K h
   unfold ztt at h
   split at h
   ·rename_i z ta oa na ca u m l tb sb
    obtain ⟨ob,nb,cb,hsb,h9⟩:=zq8 h
    clear h
    obtain ⟨⟨hz0,hz1,ha,hb,hN⟩,h⟩:=zq h9
    clear h9
    have hTl:=z0s ha hb
    have hraw: ∀i,i<z.toNat→(two l (off oa) na (off ob) nb).getD i 0=((two l (off oa) na (off ob) nb).take z.toNat).getD i 0:=fun i hi=>by
      rw [List.getD_eq_getElem?_getD,List.getD_eq_getElem?_getD,List.getElem?_take,if_pos hi]
    obtain ⟨p,hp⟩: ∃p,p=(two l (off oa) na (off ob) nb).take z.toNat:=⟨_,rfl⟩
    have hpl:p.length=z.toNat:=by rw [hp,List.length_take,hTl];omega
    rw [←hp] at hraw h
    clear hp
    obtain ⟨ht,hf⟩:=z8 h
    clear h
    have hl:z.toNat≤1000000:=by omega
    clear hTl
    rcases hsb with ⟨e1,e2,e3,e4⟩|e1
    ·subst e1 e2 e3 e4
     by_cases h1:16385<p.length
     ·have hv:iA p=22:=by unfold iA;rw [if_pos h1]
      have h:=hf (decide_eq_false (by rw [hv];decide))
      rw [hv] at h
      refine za ?_
      refine yr h ?_
      exact zn
     ·refine za ?_
      refine zt (Zs p) (fun q=>⟨[(0,.func 112 [.ptr 0 0 0 [],.ptr 2 0 0 []]),(1,.int (q.k:Nat))],[.mk ta [.sl 1 0 0 oa na ca],.mk u [.arr8 m l],.mk tb [.nilsl]]⟩) (fun q=>q.k) ⟨p.length,Nat.le_refl _,rfl⟩ [0,1,2] ?_ ?_
      ·repeat ((conv=>whnf);refine zb ?_)
       conv=>whnf
       exact zo (congrArg SV.int (show z=((p.length:Nat):Int) by omega))
      ·intro q
       have hqk:=q.hk
       have hqz:=q.hz
       by_cases h0:0<q.k
       ·have hpi:0≤((q.k:Nat):Int)-1∧((q.k:Nat):Int)-1<z:=⟨by omega,by omega⟩
        have hix:(((q.k:Nat):Int)-1).toNat=q.k-1:=by omega
        have hg:=hraw (((q.k:Nat):Int)-1).toNat (by omega)
        have hgN:=congrArg UInt8.toNat hg
        obtain ⟨j,hj⟩: ∃j,q.k=j+1:=⟨q.k-1,by omega⟩
        by_cases hb0:p.getD (q.k-1) 0=0
        ·have hd:decide (p.getD (((q.k:Nat):Int)-1).toNat 0=UInt8.ofNat 0)=true:=decide_eq_true (by rw [hix];exact hb0)
         have hnx:lnz p p.length=lnz p (q.k-1):=by
           rw [hqz,hj];rw [hj,Nat.add_sub_cancel] at hb0;exact z6z hb0
         rw [←hg] at hd
         repeat ((conv=>whnf);first|refine zu ?_|refine zg ?_|refine zh ?_|refine zb ?_|refine zr (by first|exact hd|(rw [hd];rfl)|(exact ⟨by omega,by omega,ha,hb,hN⟩)) ?_|refine zj (by first|exact hd|(rw [hd];rfl)|(exact ⟨by omega,by omega,ha,hb,hN⟩)) ?_|refine zk (by first|exact hd|(rw [hd];rfl)|(exact ⟨by omega,by omega,ha,hb,hN⟩)) ?_)
         conv=>whnf
         refine ⟨⟨q.k-1,by omega,hnx⟩,[0,1,2],by show q.k-1<q.k;omega,?_⟩
         repeat ((conv=>whnf);refine zb ?_)
         conv=>whnf
         exact zo (congrArg SV.int (show ((q.k:Nat):Int)-1=((q.k-1:Nat):Int) by omega))
        ·have hd:decide (p.getD (((q.k:Nat):Int)-1).toNat 0=UInt8.ofNat 0)=false:=decide_eq_false (by rw [hix];exact hb0)
         have hlz:lnz p p.length=q.k:=by
           rw [hqz,hj];rw [hj,Nat.add_sub_cancel] at hb0;exact z7d hb0
         have hik:iK p=((p.getD (((q.k:Nat):Int)-1).toNat 0).toNat:Int):=by unfold iK;rw [hlz,hix]
         have hkm:((lnz p p.length-1:Nat):Int)=((q.k:Nat):Int)-1:=by rw [hlz];omega
         rw [←hg] at hd
         by_cases hgd:iK p=21∨iK p=22∨iK p=23
         ·have hv:iA p= -1:=by unfold iA;rw [if_neg h1,if_neg (by omega),if_pos hgd]
          have h:=ht (decide_eq_true hv)
          rw [hkm,hik,←hgN] at h
          rcases hgd with hgd|hgd|hgd
          all_goals (
            repeat ((conv=>whnf);first|refine zu ?_|refine zg ?_|refine zh ?_|refine zb ?_|refine zr (by first|exact hd|(rw [hd];rfl)|(exact ⟨by omega,by omega,ha,hb,hN⟩)) ?_|refine zj (by first|exact hd|(rw [hd];rfl)|(exact ⟨by omega,by omega,ha,hb,hN⟩)) ?_|refine zk (by first|exact hd|(rw [hd];rfl)|(exact ⟨by omega,by omega,ha,hb,hN⟩)) ?_)
            conv=>whnf
            refine yr h ?_
            exact zn)
         ·have hv:iA p=10:=by unfold iA;rw [if_neg h1,if_neg (by omega),if_neg hgd]
          have h:=hf (decide_eq_false (by rw [hv];decide))
          rw [hv] at h
          repeat ((conv=>whnf);first|refine zu ?_|refine zg ?_|refine zh ?_|refine zb ?_|refine zr (by first|exact hd|(rw [hd];rfl)|(exact ⟨by omega,by omega,ha,hb,hN⟩)) ?_|refine zj (by first|exact hd|(rw [hd];rfl)|(exact ⟨by omega,by omega,ha,hb,hN⟩)) ?_|refine zk (by first|exact hd|(rw [hd];rfl)|(exact ⟨by omega,by omega,ha,hb,hN⟩)) ?_)
          conv=>whnf
          refine yr h ?_
          exact zn
       ·have hlz:lnz p p.length=0:=by rw [hqz,show q.k=0 by omega];unfold lnz;rfl
        have hv:iA p=10:=by unfold iA;rw [if_neg h1,if_pos hlz]
        have h:=hf (decide_eq_false (by rw [hv];decide))
        rw [hv] at h
        refine za ?_
        refine yr h ?_
        exact zn
    ·subst e1
     by_cases h1:16385<p.length
     ·have hv:iA p=22:=by unfold iA;rw [if_pos h1]
      have h:=hf (decide_eq_false (by rw [hv];decide))
      rw [hv] at h
      refine za ?_
      refine yr h ?_
      exact zn
     ·refine za ?_
      refine zt (Zs p) (fun q=>⟨[(0,.func 112 [.ptr 0 0 0 [],.ptr 2 0 0 []]),(1,.int (q.k:Nat))],[.mk ta [.sl 1 0 0 oa na ca],.mk u [.arr8 m l],.mk tb [.sl 1 0 0 ob nb cb]]⟩) (fun q=>q.k) ⟨p.length,Nat.le_refl _,rfl⟩ [0,1,2] ?_ ?_
      ·repeat ((conv=>whnf);refine zb ?_)
       conv=>whnf
       exact zo (congrArg SV.int (show z=((p.length:Nat):Int) by omega))
      ·intro q
       have hqk:=q.hk
       have hqz:=q.hz
       by_cases h0:0<q.k
       ·have hpi:0≤((q.k:Nat):Int)-1∧((q.k:Nat):Int)-1<z:=⟨by omega,by omega⟩
        have hix:(((q.k:Nat):Int)-1).toNat=q.k-1:=by omega
        have hg:=hraw (((q.k:Nat):Int)-1).toNat (by omega)
        have hgN:=congrArg UInt8.toNat hg
        obtain ⟨j,hj⟩: ∃j,q.k=j+1:=⟨q.k-1,by omega⟩
        by_cases hb0:p.getD (q.k-1) 0=0
        ·have hd:decide (p.getD (((q.k:Nat):Int)-1).toNat 0=UInt8.ofNat 0)=true:=decide_eq_true (by rw [hix];exact hb0)
         have hnx:lnz p p.length=lnz p (q.k-1):=by
           rw [hqz,hj];rw [hj,Nat.add_sub_cancel] at hb0;exact z6z hb0
         rw [←hg] at hd
         repeat ((conv=>whnf);first|refine zu ?_|refine zg ?_|refine zh ?_|refine zb ?_|refine zr (by first|exact hd|(rw [hd];rfl)|(exact ⟨by omega,by omega,ha,hb,hN⟩)) ?_|refine zj (by first|exact hd|(rw [hd];rfl)|(exact ⟨by omega,by omega,ha,hb,hN⟩)) ?_|refine zk (by first|exact hd|(rw [hd];rfl)|(exact ⟨by omega,by omega,ha,hb,hN⟩)) ?_)
         conv=>whnf
         refine ⟨⟨q.k-1,by omega,hnx⟩,[0,1,2],by show q.k-1<q.k;omega,?_⟩
         repeat ((conv=>whnf);refine zb ?_)
         conv=>whnf
         exact zo (congrArg SV.int (show ((q.k:Nat):Int)-1=((q.k-1:Nat):Int) by omega))
        ·have hd:decide (p.getD (((q.k:Nat):Int)-1).toNat 0=UInt8.ofNat 0)=false:=decide_eq_false (by rw [hix];exact hb0)
         have hlz:lnz p p.length=q.k:=by
           rw [hqz,hj];rw [hj,Nat.add_sub_cancel] at hb0;exact z7d hb0
         have hik:iK p=((p.getD (((q.k:Nat):Int)-1).toNat 0).toNat:Int):=by unfold iK;rw [hlz,hix]
         have hkm:((lnz p p.length-1:Nat):Int)=((q.k:Nat):Int)-1:=by rw [hlz];omega
         rw [←hg] at hd
         by_cases hgd:iK p=21∨iK p=22∨iK p=23
         ·have hv:iA p= -1:=by unfold iA;rw [if_neg h1,if_neg (by omega),if_pos hgd]
          have h:=ht (decide_eq_true hv)
          rw [hkm,hik,←hgN] at h
          rcases hgd with hgd|hgd|hgd
          all_goals (
            repeat ((conv=>whnf);first|refine zu ?_|refine zg ?_|refine zh ?_|refine zb ?_|refine zr (by first|exact hd|(rw [hd];rfl)|(exact ⟨by omega,by omega,ha,hb,hN⟩)) ?_|refine zj (by first|exact hd|(rw [hd];rfl)|(exact ⟨by omega,by omega,ha,hb,hN⟩)) ?_|refine zk (by first|exact hd|(rw [hd];rfl)|(exact ⟨by omega,by omega,ha,hb,hN⟩)) ?_)
            conv=>whnf
            refine yr h ?_
            exact zn)
         ·have hv:iA p=10:=by unfold iA;rw [if_neg h1,if_neg (by omega),if_neg hgd]
          have h:=hf (decide_eq_false (by rw [hv];decide))
          rw [hv] at h
          repeat ((conv=>whnf);first|refine zu ?_|refine zg ?_|refine zh ?_|refine zb ?_|refine zr (by first|exact hd|(rw [hd];rfl)|(exact ⟨by omega,by omega,ha,hb,hN⟩)) ?_|refine zj (by first|exact hd|(rw [hd];rfl)|(exact ⟨by omega,by omega,ha,hb,hN⟩)) ?_|refine zk (by first|exact hd|(rw [hd];rfl)|(exact ⟨by omega,by omega,ha,hb,hN⟩)) ?_)
          conv=>whnf
          refine yr h ?_
          exact zn
       ·have hlz:lnz p p.length=0:=by rw [hqz,show q.k=0 by omega];unfold lnz;rfl
        have hv:iA p=10:=by unfold iA;rw [if_neg h1,if_pos hlz]
        have h:=hf (decide_eq_false (by rw [hv];decide))
        rw [hv] at h
        refine za ?_
        refine yr h ?_
        exact zn
   ·exact h.elim
end Go.Sym.Z

namespace Go.Sym.Z
open Go Go.Proofs.Tryz Go.Sym.Lp Go.Sym.Ring Go.Sym.Cha Go.Sym.Sha Go.Sym.Hk
set_option maxRecDepth 100000
attribute [local irreducible] x3 exF kyF ivF y6 xq y3 inL ncF hdF lnz iA two zb8 zl iK
def ylr:List (Nat×List PStep):= [(3,[⟨0,[]⟩,⟨1,[]⟩,⟨2,[]⟩,⟨3,[]⟩,⟨4,[0,1,2,3]⟩,⟨5,[0,1,2,3,4]⟩,⟨6,[0,1,2,3,4,5]⟩,⟨7,[]⟩,⟨8,[]⟩,⟨9,[]⟩,⟨10,[9]⟩,⟨11,[10]⟩,⟨12,[]⟩])]
def inT (k:Kq) (r:List UInt8):List UInt8:=y3 k.w k.key (ncF k.iv k.m) (r.take (r.length-16))
def inO (k:Kq) (hd r:List UInt8):Prop:=16≤r.length∧xq k.w k.key (ncF k.iv k.m) hd (r.take (r.length-16))=r.drop (r.length-16)
instance (k:Kq) (hd r:List UInt8):Decidable (inO k hd r):=by unfold inO;exact inferInstance
def zu2 (R:Option Kq) (kind:Int) (hd r:List UInt8) (ok okN:Int→List UInt8→Prop) (no bad:Int→Prop):Prop:=match R with
  |none=>ok kind r
  |some k=>ye (decide (kind=20)) (ok kind r) (ye (decide (inO k hd r)) (ye (decide (iA (inT k r)= -1)) (okN (iK (inT k r)) ((inT k r).take (lnz (inT k r) (inT k r).length-1))) (bad (iA (inT k r)))) (no 20))
theorem zko {n c m:Nat} {l l':List UInt8} {b h:Int} (h0:yj n c m l b h) (hl:l'.length=n):yj n c m l' b h:=by
  unfold yj at h0 ⊢;omega
theorem z7u {ct s X:List UInt8} {a k:Nat} (ha:a≤ct.length) (hs:s.length=k):((ct.take a++s++X).drop a).take k=s:=by
  rw [List.append_assoc,List.drop_left' (by rw [List.length_take];omega),List.take_left' hs]
theorem z8z {ct s X:List UInt8} {a k:Nat} (ha:a≤ct.length) (hs:s.length=k):(ct.take a++s++X).drop (a+k)=X:=List.drop_left' (by rw [List.length_append,List.length_take];omega)
theorem z3v {ct u v X:List UInt8} {a k:Nat} (ha:a≤ct.length) (hk:k≤u.length):((ct.take a++(u++v)++X).drop a).take k=u.take k:=by
  rw [List.append_assoc,List.drop_left' (by rw [List.length_take];omega),List.append_assoc,List.take_append_of_le_length hk]
def zzj:Spec:=fun args hp K=>match args with
  | [.ptr 0 0 0 [],.str hd,.int kind,.int z]=>stM hp fun p W R f n b h l=>Pre (yj n n n l b h∧0≤z∧5+z≤h∧z≤16640∧wOK R∧hd.length≤100)
      (zu2 R kind hd (((zl l b.toNat h.toNat).drop 5).take z.toNat)
        (fun k d=>K (.tup [.agg [.int k,.str d],.int (-1)]) (stH p W R f n b h l))
        (fun k d=>zaz fun l':List UInt8=>(l'.length=n∧(zl l' b.toNat h.toNat).drop (5+z.toNat)=(zl l b.toNat h.toNat).drop (5+z.toNat))→K (.tup [.agg [.int k,.str d],.int (-1)]) (stH p W (upK R) f n b h l'))
        (fun a=>K (.tup [.agg [.int 0,.str []],.int a]) (stH p W R f n b h l))
        (fun a=>zaz fun l':List UInt8=>l'.length=n→K (.tup [.agg [.int 0,.str []],.int a]) (stH p W (upK R) f n b h l')))
  |_=>False
set_option maxHeartbeats 16000000 in
theorem ycz:zp prog 83 zzj:=by
  refine zm z9i (zd z2r (zd z2u (zd z4l (zd z0r zi)))) rfl func83 rfl call83 (D:=ylr) ?_ ?_
  ·intro args hp K h
   unfold zzj at h
   split at h
   ·exact Nat.le_of_ble_eq_true rfl
   ·exact h.elim
  ·intro args hp K h
   unfold zzj at h
   split at h
   ·rename_i hd kind z
    obtain ⟨t0,t1,t2,t3,t4,p,W,R,f,n,b,hh,l,ehp,h9⟩:=zey h
    clear h
    subst ehp
    obtain ⟨⟨h0,hz0,hz1,hz2,hok,hdl⟩,h⟩:=zq h9
    clear h9
    have h0':=h0
    unfold yj at h0'
    have hln:l.length=n:=by omega
    have hcl:(zl l b.toNat hh.toNat).length=hh.toNat:=zag (by omega) (by omega)
    obtain ⟨r,hr⟩: ∃r,r=((zl l b.toNat hh.toNat).drop 5).take z.toNat:=⟨_,rfl⟩
    have hrl:r.length=z.toNat:=by rw [hr,List.length_take,List.length_drop,hcl];omega
    have hpp:yj n n n l b hh∧(0:Int)≤5∧0≤z∧5≤hh∧z≤hh-5:=⟨h0,by decide,hz0,by omega,by omega⟩
    have hpk:decide ((0:Int)≤5∧0≤z∧5≤hh∧z≤hh-5)=true:=decide_eq_true ⟨by decide,hz0,by omega,by omega⟩
    have hr':List.take z.toNat (List.drop (Int.toNat 5) (zl l b.toNat hh.toNat))=r:=hr.symm
    rw [←hr] at h
    rcases R with _|⟨bw,bk,bi,bm⟩
    ·rcases W with _|⟨aw,ak,ai,am⟩
     all_goals (
       dsimp only [xv]
       refine za ?_
       refine yi fun q hq=>?_
       obtain ⟨oa,na,ca,ob,nb,cb,one⟩:=q
       cases one
       all_goals (
         repeat ((conv=>whnf);first|refine zu ?_|refine zg ?_|refine zh ?_|refine zb ?_|refine zr (by first|exact hpk|(rw [hpk];rfl)) ?_|refine zj (by first|exact hpk|(rw [hpk];rfl)) ?_|refine zk (by first|exact hpk|(rw [hpk];rfl)) ?_)
         conv=>whnf
         rw [hr']
         refine yr h ?_
         exact zn))
    ·obtain ⟨ht,hf⟩:=z8 h
     by_cases hk:kind=20
     ·have h:=ht (decide_eq_true hk)
      have d20:=decide_eq_true hk
      rcases W with _|⟨aw,ak,ai,am⟩
      all_goals (
        dsimp only [xv]
        refine za ?_
        refine yi fun q hq=>?_
        obtain ⟨oa,na,ca,ob,nb,cb,one⟩:=q
        cases one
        all_goals (
          repeat ((conv=>whnf);first|refine zu ?_|refine zg ?_|refine zh ?_|refine zb ?_|refine zr (by first|exact hpk|(rw [hpk];rfl)|(rw [d20];rfl)) ?_|refine zj (by first|exact hpk|(rw [hpk];rfl)|(rw [d20];rfl)) ?_|refine zk (by first|exact hpk|(rw [hpk];rfl)|(rw [d20];rfl)) ?_)
          conv=>whnf
          rw [hr']
          refine yr h ?_
          exact zn))
     ·have h:=hf (decide_eq_false hk)
      have d20:=decide_eq_false hk
      clear ht hf
      obtain ⟨ht,hf⟩:=z8 h
      clear h
      have hok:ze1 bw bk bi bm:=hok
      have hdA:(y3 bw bk (ncF bi bm) (List.take (r.length-16) r)).length=r.length-16:=by rw [zar,List.length_take];omega
      rcases W with _|⟨aw,ak,ai,am⟩
      all_goals (
        dsimp only [xv]
        refine za ?_
        refine yi fun q hq=>?_
        have hna:=hq.ha
        have hnb:=hq.hb
        have hN:=hq.hn
        have hq2:=hq.h2
        have hq3:=hq.h3
        have hone:=hq.h1
        clear hq
        conv=>whnf
        cases ho:q.one
        case' true=>
          obtain ⟨e1,e2⟩:=hone ho
          rw [e2] at hN
          rw [e1,e2] at hnb hq2 hq3
        all_goals (
          have h2r:=(hq2 l hln).trans hr'
          rw [←hrl] at hN hq2
          have hpo:ze1 bw bk bi bm∧hd.length≤100:=⟨hok,hdl⟩
          by_cases hop:inO ⟨bw,bk,bi,bm⟩ hd r
          ·have h16:=hop.1
           have e:decide (16≤r.length∧xq bw bk (ncF bi bm) hd (r.take (r.length-16))=r.drop (r.length-16))=true:=decide_eq_true hop
           have h:=ht (decide_eq_true hop)
           obtain ⟨ht,hf⟩:=z8 h
           have hsl:(y3 bw bk (ncF bi bm) (List.take (r.length-16) r)++List.drop (r.length-16) r).length=r.length:=by rw [List.length_append,hdA,List.length_drop];omega
           obtain ⟨hl1,hc1⟩:=hq3 l _ hln (hsl.trans hrl)
           have hp2:=hq2 _ hl1
           rw [hc1] at hp2
           have hp3:=hp2.trans (z7u (by rw [hcl];show 5≤_;omega) hsl)
           have htl:List.take (((r.length:Nat):Int)-16).toNat (y3 bw bk (ncF bi bm) (List.take (r.length-16) r)++List.drop (r.length-16) r)=y3 bw bk (ncF bi bm) (List.take (r.length-16) r):=List.take_left' (by rw [hdA];omega)
           repeat ((conv=>whnf);first|refine zu ?_|refine zg ?_|refine zh ?_|refine zb ?_|refine zr (by first|(rw [d20];rfl)|exact d20|(refine ⟨hok,hdl,?_,?_,?_⟩<;>omega)|(rw [h2r,hN];exact e)) ?_|refine zj (by first|(rw [d20];rfl)|exact d20|(refine ⟨hok,hdl,?_,?_,?_⟩<;>omega)|(rw [h2r,hN];exact e)) ?_|refine zk (by first|(rw [d20];rfl)|exact d20|(refine ⟨hok,hdl,?_,?_,?_⟩<;>omega)|(rw [h2r,hN];exact e)) ?_)
           conv=>whnf
           rw [h2r,hN]
           by_cases hi:iA (inT ⟨bw,bk,bi,bm⟩ r)= -1
           ·have h:=ht (decide_eq_true hi)
            have e2:decide (iA (y3 bw bk (ncF bi bm) (List.take (r.length-16) r))= -1)=true:=decide_eq_true hi
            repeat ((conv=>whnf);first|refine zu ?_|refine zg ?_|refine zh ?_|refine zb ?_|refine zr (by first|(refine ⟨?_,?_,?_,?_,?_⟩<;>omega)|(rw [hp3,htl];exact e2)) ?_|refine zj (by first|(refine ⟨?_,?_,?_,?_,?_⟩<;>omega)|(rw [hp3,htl];exact e2)) ?_|refine zk (by first|(refine ⟨?_,?_,?_,?_,?_⟩<;>omega)|(rw [hp3,htl];exact e2)) ?_)
            conv=>whnf
            rw [hp3,htl]
            have hlz:=z5n (y3 bw bk (ncF bi bm) (List.take (r.length-16) r)) (y3 bw bk (ncF bi bm) (List.take (r.length-16) r)).length
            have hrg:yj n n n _ b hh:=zko h0 hl1
            have hpk2:decide ((0:Int)≤5∧0≤((lnz (y3 bw bk (ncF bi bm) (List.take (r.length-16) r)) (y3 bw bk (ncF bi bm) (List.take (r.length-16) r)).length-1:Nat):Int)∧5≤hh∧((lnz (y3 bw bk (ncF bi bm) (List.take (r.length-16) r)) (y3 bw bk (ncF bi bm) (List.take (r.length-16) r)).length-1:Nat):Int)≤hh-5)=true:=decide_eq_true ⟨by decide,by omega,by omega,by omega⟩
            repeat ((conv=>whnf);first|refine zu ?_|refine zg ?_|refine zh ?_|refine zb ?_|refine zr (by first|exact hpk2|(rw [hpk2];rfl)) ?_|refine zj (by first|exact hpk2|(rw [hpk2];rfl)) ?_|refine zk (by first|exact hpk2|(rw [hpk2];rfl)) ?_)
            conv=>whnf
            have htail:List.drop (5+z.toNat) (zl _ b.toNat hh.toNat)=List.drop (5+z.toNat) (zl l b.toNat hh.toNat):=(congrArg (List.drop (5+z.toNat)) hc1).trans (z8z (by rw [hcl];show 5≤_;omega) (hsl.trans hrl))
            have hdat:=z3v (ct:=zl l b.toNat hh.toNat) (X:=List.drop (Int.toNat 5+z.toNat) (zl l b.toNat hh.toNat)) (a:=Int.toNat 5) (u:=y3 bw bk (ncF bi bm) (List.take (r.length-16) r)) (v:=List.drop (r.length-16) r) (k:=(((lnz (y3 bw bk (ncF bi bm) (List.take (r.length-16) r)) (y3 bw bk (ncF bi bm) (List.take (r.length-16) r)).length-1:Nat):Int)).toNat) (by rw [hcl];show 5≤_;omega) (by omega)
            rw [hc1,hdat]
            refine yr (x0 h _ ⟨hl1,htail⟩) ?_
            exact zn
           ·have h:=hf (decide_eq_false hi)
            have e2:decide (iA (y3 bw bk (ncF bi bm) (List.take (r.length-16) r))= -1)=false:=decide_eq_false hi
            repeat ((conv=>whnf);first|refine zu ?_|refine zg ?_|refine zh ?_|refine zb ?_|refine zr (by first|(refine ⟨?_,?_,?_,?_,?_⟩<;>omega)|(rw [hp3,htl];exact e2)|(rw [hp3,htl,e2];rfl)) ?_|refine zj (by first|(refine ⟨?_,?_,?_,?_,?_⟩<;>omega)|(rw [hp3,htl];exact e2)|(rw [hp3,htl,e2];rfl)) ?_|refine zk (by first|(refine ⟨?_,?_,?_,?_,?_⟩<;>omega)|(rw [hp3,htl];exact e2)|(rw [hp3,htl,e2];rfl)) ?_)
            conv=>whnf
            rw [hp3,htl]
            refine yr (x0 h _ hl1) ?_
            exact zn
          ·have e:decide (16≤r.length∧xq bw bk (ncF bi bm) hd (r.take (r.length-16))=r.drop (r.length-16))=false:=decide_eq_false hop
           have h:=hf (decide_eq_false hop)
           repeat ((conv=>whnf);first|refine zu ?_|refine zg ?_|refine zh ?_|refine zb ?_|refine zr (by first|(rw [d20];rfl)|exact d20|(refine ⟨hok,hdl,?_,?_,?_⟩<;>omega)|(rw [h2r,hN];exact e)) ?_|refine zj (by first|(rw [d20];rfl)|exact d20|(refine ⟨hok,hdl,?_,?_,?_⟩<;>omega)|(rw [h2r,hN];exact e)) ?_|refine zk (by first|(rw [d20];rfl)|exact d20|(refine ⟨hok,hdl,?_,?_,?_⟩<;>omega)|(rw [h2r,hN];exact e)) ?_)
           conv=>whnf
           refine yr h ?_
           exact zn))
   ·exact h.elim
end Go.Sym.Z

namespace Go.Sym.Z
open Go Go.Proofs.Tryz Go.Sym.Lp Go.Sym.Ring Go.Sym.Cha Go.Sym.Sha Go.Sym.Hk
set_option maxRecDepth 100000
attribute [local irreducible] x3 exF kyF ivF y6 xq y3 inL ncF hdF lnz iA two zb8 zl iK inO inT
def ykv:List (Nat×List PStep):= []
def ymz:List (Nat×List PStep):= [(4,[⟨0,[]⟩,⟨1,[0]⟩,⟨2,[0]⟩,⟨3,[0]⟩,⟨4,[0]⟩,⟨5,[1,2,3,4]⟩,⟨6,[1,2,3,4]⟩,⟨7,[]⟩])]
theorem z7v (h:List UInt8) (i:Nat) (hi:i<5):(h.take 5).getD i 0=h.getD i 0:=by
  rw [List.getD_eq_getElem?_getD,List.getElem?_take,if_pos hi,←List.getD_eq_getElem?_getD]
theorem yir (h:List UInt8):hK (h.take 5)=hK h:=by unfold hK;rw [z7v h 0 (by decide)]
theorem yi1 (h:List UInt8):hN (h.take 5)=hN h:=by unfold hN;rw [z7v h 3 (by decide),z7v h 4 (by decide)]
theorem yll (h:List UInt8) (k:Bool):hA (h.take 5) k=hA h k:=by unfold hA;rw [yir,yi1]
theorem zih {l:List UInt8} {n:Nat} {b h k:Int} (hl:l.length=n) (hb:0≤b) (hb':b<n) (hh:0≤h) (hh':h≤n) (hk:0≤k) (hk':k≤h):zl l ((b+k).tmod n).toNat (h-k).toNat=(zl l b.toNat h.toNat).drop k.toNat:=by
  have e0:((b+k).tmod n).toNat=(b.toNat+k.toNat)%n:=by rw [zeg (by omega)];congr 1;omega
  have e1:(h-k).toNat=h.toNat-k.toNat:=by omega
  rw [e0,e1]
  subst hl
  exact zty (by omega) (by omega) (by omega)
def nxM (R:Option Kq) (held:List UInt8) (ok:Int→List UInt8→Option Kq→Prop) (no bad:Int→Prop):Prop:=
  ye (decide (held.length<5)) (no (-1)) (ye (decide (hA held R.isSome= -1)) (ye (decide ((held.length:Int)<5+hN held)) (no (-1)) (zu2 R (hK held) (held.take 5) (hT held) (fun k d=>ok k d R) (fun k d=>ok k d (upK R)) no bad)) (no (hA held R.isSome)))
def zuo:Spec:=fun args hp K=>match args with
  | [.ptr 0 0 0 []]=>stM hp fun p W R f n b h l=>Pre (yj n n n l b h∧wOK R) (nxM R (zl l b.toNat h.toNat)
        (fun k d R'=>zaz fun l':List UInt8=>(l'.length=n∧zl l' ((b+(5+hN (zl l b.toNat h.toNat))).tmod n).toNat (h-(5+hN (zl l b.toNat h.toNat))).toNat=hR (zl l b.toNat h.toNat))→K (.tup [.agg [.int k,.str d],.bool true,.int (-1)]) (stH p W R' f n ((b+(5+hN (zl l b.toNat h.toNat))).tmod n) (h-(5+hN (zl l b.toNat h.toNat))) l'))
        (fun a=>K (.tup [.agg [.int 0,.str []],.bool false,.int a]) (stH p W R f n b h l))
        (fun a=>zaz fun l':List UInt8=>l'.length=n→K (.tup [.agg [.int 0,.str []],.bool false,.int a]) (stH p W (upK R) f n b h l')))
  |_=>False
set_option maxHeartbeats 16000000 in
theorem z8x:zp prog 61 zuo:=by
  refine zm zau (zd z0r (zd yfa (zd z5i (zd ycz (zd yc4 zi))))) rfl func61 rfl call61 (D:=ykv) ?_ ?_
  ·intro args hp K h
   unfold zuo at h
   split at h
   ·exact Nat.le_of_ble_eq_true rfl
   ·exact h.elim
  ·intro args hp K h
   unfold zuo at h
   split at h
   ·obtain ⟨t0,t1,t2,t3,t4,p,W,R,f,n,b,hh,l,ehp,h9⟩:=zey h
    clear h
    subst ehp
    obtain ⟨⟨h0,hok⟩,h⟩:=zq h9
    clear h9
    have h0':=h0
    unfold yj at h0'
    have hln:l.length=n:=by omega
    have hcl:(zl l b.toNat hh.toNat).length=hh.toNat:=zag (by omega) (by omega)
    have hdE:List.take (Int.toNat 5) (List.drop (Int.toNat 0) (zl l b.toNat hh.toNat))=List.take 5 (zl l b.toNat hh.toNat):=rfl
    have hKe:=yir (zl l b.toNat hh.toNat)
    have hNe:=yi1 (zl l b.toNat hh.toNat)
    have hAe:=yll (zl l b.toNat hh.toNat)
    have hNb:=z08 (zl l b.toNat hh.toNat)
    obtain ⟨ht,hf⟩:=z8 h
    clear h
    by_cases h5:(zl l b.toNat hh.toNat).length<5
    ·have h:=ht (decide_eq_true h5)
     have dpk:decide ((0:Int)≤0∧(0:Int)≤5∧0≤hh∧5≤hh-0)=false:=decide_eq_false (by omega)
     rcases R with _|⟨bw,bk,bi,bm⟩<;>rcases W with _|⟨aw,ak,ai,am⟩
     all_goals (
       dsimp only [xv]
       repeat ((conv=>whnf);first|refine zu ?_|refine zg ?_|refine zh ?_|refine zb ?_|refine zr (by first|exact dpk|(rw [dpk];rfl)) ?_|refine zj (by first|exact dpk|(rw [dpk];rfl)) ?_|refine zk (by first|exact dpk|(rw [dpk];rfl)) ?_)
       conv=>whnf
       refine yr h ?_
       exact zn)
    ·have h:=hf (decide_eq_false h5)
     have dpk:decide ((0:Int)≤0∧(0:Int)≤5∧0≤hh∧5≤hh-0)=true:=decide_eq_true (by omega)
     have hl5:(List.take 5 (zl l b.toNat hh.toNat)).length=5:=by rw [List.length_take,hcl];omega
     have hph:5≤(List.take (Int.toNat 5) (List.drop (Int.toNat 0) (zl l b.toNat hh.toNat))).length∧(List.take (Int.toNat 5) (List.drop (Int.toNat 0) (zl l b.toNat hh.toNat))).length<9223372036854775808:=by rw [hdE,hl5];decide
     clear ht hf
     obtain ⟨ht,hf⟩:=z8 h
     clear h
     rcases R with _|⟨bw,bk,bi,bm⟩
     ·have hAk:hA (zl l b.toNat hh.toNat) false=hA (zl l b.toNat hh.toNat) (Option.isSome (none:Option Kq)):=rfl
      by_cases ha:hA (zl l b.toNat hh.toNat) false= -1
      ·have h:=ht (decide_eq_true ha)
       have e1:decide (hA (List.take (Int.toNat 5) (List.drop (Int.toNat 0) (zl l b.toNat hh.toNat))) false= -1)=true:=decide_eq_true (by rw [hdE,hAe];exact ha)
       have hn16:=z71 ha
       clear ht hf
       obtain ⟨ht,hf⟩:=z8 h
       clear h
       by_cases hs:((zl l b.toNat hh.toNat).length:Int)<5+hN (zl l b.toNat hh.toNat)
       ·have h:=ht (decide_eq_true hs)
        rcases W with _|⟨aw,ak,ai,am⟩
        all_goals (
          dsimp only [xv]
          repeat ((conv=>whnf);first|refine zu ?_|refine zg ?_|refine zh ?_|refine zb ?_|refine zr (by first|exact dpk|(rw [dpk];rfl)|exact e1|(rw [e1];rfl)) ?_|refine zj (by first|exact dpk|(rw [dpk];rfl)|exact e1|(rw [e1];rfl)) ?_|refine zk (by first|exact dpk|(rw [dpk];rfl)|exact e1|(rw [e1];rfl)) ?_)
          conv=>whnf
          rw [hdE,hKe,hNe]
          refine za ?_
          refine yr h ?_
          exact zn)
       ·have h:=hf (decide_eq_false hs)
        clear ht hf
        have hpre:yj n n n l b hh∧0≤hN (zl l b.toNat hh.toNat)∧5+hN (zl l b.toNat hh.toNat)≤hh∧hN (zl l b.toNat hh.toNat)≤16640∧wOK (none)∧(List.take 5 (zl l b.toNat hh.toNat)).length≤100:=⟨h0,by omega,by omega,by omega,hok,by omega⟩
        have hdrop: ∀l':List UInt8,l'.length=n→yj n n n l' b hh∧0≤5+hN (zl l b.toNat hh.toNat)∧5+hN (zl l b.toNat hh.toNat)≤hh:=fun l' h=>⟨zko h0 h,by omega,by omega⟩
        have hcn: ∀l':List UInt8,l'.length=n→(zl l' b.toNat hh.toNat).drop (5+(hN (zl l b.toNat hh.toNat)).toNat)=(zl l b.toNat hh.toNat).drop (5+(hN (zl l b.toNat hh.toNat)).toNat)→zl l' ((b+(5+hN (zl l b.toNat hh.toNat))).tmod n).toNat (hh-(5+hN (zl l b.toNat hh.toNat))).toNat=hR (zl l b.toNat hh.toNat):=fun l' h e=>by
          rw [zih h (by omega) (by omega) (by omega) (by omega) (by omega) (by omega),show (5+hN (zl l b.toNat hh.toNat)).toNat=5+(hN (zl l b.toNat hh.toNat)).toNat by omega,e]
          rfl
        have hsame:=hcn l hln rfl
        have hdr:=hdrop l hln
        rcases W with _|⟨aw,ak,ai,am⟩
        all_goals (
          dsimp only [xv]
          repeat ((conv=>whnf);first|refine zu ?_|refine zg ?_|refine zh ?_|refine zb ?_|refine zr (by first|exact dpk|(rw [dpk];rfl)|exact e1|(rw [e1];rfl)) ?_|refine zj (by first|exact dpk|(rw [dpk];rfl)|exact e1|(rw [e1];rfl)) ?_|refine zk (by first|exact dpk|(rw [dpk];rfl)|exact e1|(rw [e1];rfl)) ?_)
          conv=>whnf
          rw [hdE,hKe,hNe]
          refine za ?_
          refine yr (x0 h _ ⟨hln,hsame⟩) ?_
          exact zn)
      ·have h:=hf (decide_eq_false ha)
       have e1:decide (hA (List.take (Int.toNat 5) (List.drop (Int.toNat 0) (zl l b.toNat hh.toNat))) false= -1)=false:=decide_eq_false (by rw [hdE,hAe];exact ha)
       have eA:hA (List.take (Int.toNat 5) (List.drop (Int.toNat 0) (zl l b.toNat hh.toNat))) (!true)=hA (zl l b.toNat hh.toNat) false:=by rw [hdE,hAe];rfl
       have e2:decide (hA (zl l b.toNat hh.toNat) false= -1)=false:=decide_eq_false ha
       rcases W with _|⟨aw,ak,ai,am⟩
       all_goals (
         dsimp only [xv]
         repeat ((conv=>whnf);first|refine zu ?_|refine zg ?_|refine zh ?_|refine zb ?_|refine zr (by first|exact dpk|(rw [dpk];rfl)|exact e1|(rw [e1];rfl)) ?_|refine zj (by first|exact dpk|(rw [dpk];rfl)|exact e1|(rw [e1];rfl)) ?_|refine zk (by first|exact dpk|(rw [dpk];rfl)|exact e1|(rw [e1];rfl)) ?_)
         conv=>whnf
         rw [eA]
         repeat ((conv=>whnf);first|refine zu ?_|refine zg ?_|refine zh ?_|refine zb ?_|refine zr (by first|exact e2|(rw [e2];rfl)) ?_|refine zj (by first|exact e2|(rw [e2];rfl)) ?_|refine zk (by first|exact e2|(rw [e2];rfl)) ?_)
         conv=>whnf
         refine yr h ?_
         exact zn)
     ·have hAk:hA (zl l b.toNat hh.toNat) true=hA (zl l b.toNat hh.toNat) (Option.isSome (some (Kq.mk bw bk bi bm))):=rfl
      by_cases ha:hA (zl l b.toNat hh.toNat) true= -1
      ·have h:=ht (decide_eq_true ha)
       have e1:decide (hA (List.take (Int.toNat 5) (List.drop (Int.toNat 0) (zl l b.toNat hh.toNat))) true= -1)=true:=decide_eq_true (by rw [hdE,hAe];exact ha)
       have hn16:=z71 ha
       clear ht hf
       obtain ⟨ht,hf⟩:=z8 h
       clear h
       by_cases hs:((zl l b.toNat hh.toNat).length:Int)<5+hN (zl l b.toNat hh.toNat)
       ·have h:=ht (decide_eq_true hs)
        rcases W with _|⟨aw,ak,ai,am⟩
        all_goals (
          dsimp only [xv]
          repeat ((conv=>whnf);first|refine zu ?_|refine zg ?_|refine zh ?_|refine zb ?_|refine zr (by first|exact dpk|(rw [dpk];rfl)|exact e1|(rw [e1];rfl)) ?_|refine zj (by first|exact dpk|(rw [dpk];rfl)|exact e1|(rw [e1];rfl)) ?_|refine zk (by first|exact dpk|(rw [dpk];rfl)|exact e1|(rw [e1];rfl)) ?_)
          conv=>whnf
          rw [hdE,hKe,hNe]
          refine za ?_
          refine yr h ?_
          exact zn)
       ·have h:=hf (decide_eq_false hs)
        clear ht hf
        have hpre:yj n n n l b hh∧0≤hN (zl l b.toNat hh.toNat)∧5+hN (zl l b.toNat hh.toNat)≤hh∧hN (zl l b.toNat hh.toNat)≤16640∧wOK (some ⟨bw,bk,bi,bm⟩)∧(List.take 5 (zl l b.toNat hh.toNat)).length≤100:=⟨h0,by omega,by omega,by omega,hok,by omega⟩
        have hdrop: ∀l':List UInt8,l'.length=n→yj n n n l' b hh∧0≤5+hN (zl l b.toNat hh.toNat)∧5+hN (zl l b.toNat hh.toNat)≤hh:=fun l' h=>⟨zko h0 h,by omega,by omega⟩
        have hcn: ∀l':List UInt8,l'.length=n→(zl l' b.toNat hh.toNat).drop (5+(hN (zl l b.toNat hh.toNat)).toNat)=(zl l b.toNat hh.toNat).drop (5+(hN (zl l b.toNat hh.toNat)).toNat)→zl l' ((b+(5+hN (zl l b.toNat hh.toNat))).tmod n).toNat (hh-(5+hN (zl l b.toNat hh.toNat))).toNat=hR (zl l b.toNat hh.toNat):=fun l' h e=>by
          rw [zih h (by omega) (by omega) (by omega) (by omega) (by omega) (by omega),show (5+hN (zl l b.toNat hh.toNat)).toNat=5+(hN (zl l b.toNat hh.toNat)).toNat by omega,e]
          rfl
        have hsame:=hcn l hln rfl
        have hdr:=hdrop l hln
        obtain ⟨ht,hf⟩:=z8 h
        clear h
        by_cases hk:hK (zl l b.toNat hh.toNat)=20
        ·have h:=ht (decide_eq_true hk)
         have d20:=decide_eq_true hk
         rcases W with _|⟨aw,ak,ai,am⟩
         all_goals (
           dsimp only [xv]
           repeat ((conv=>whnf);first|refine zu ?_|refine zg ?_|refine zh ?_|refine zb ?_|refine zr (by first|exact dpk|(rw [dpk];rfl)|exact e1|(rw [e1];rfl)) ?_|refine zj (by first|exact dpk|(rw [dpk];rfl)|exact e1|(rw [e1];rfl)) ?_|refine zk (by first|exact dpk|(rw [dpk];rfl)|exact e1|(rw [e1];rfl)) ?_)
           conv=>whnf
           rw [hdE,hKe,hNe]
           repeat ((conv=>whnf);first|refine zu ?_|refine zg ?_|refine zh ?_|refine zb ?_|refine zr (by first|exact d20|(rw [d20];rfl)) ?_|refine zj (by first|exact d20|(rw [d20];rfl)) ?_|refine zk (by first|exact d20|(rw [d20];rfl)) ?_)
           conv=>whnf
           refine yr (x0 h _ ⟨hln,hsame⟩) ?_
           exact zn)
        ·have h:=hf (decide_eq_false hk)
         have d20:=decide_eq_false hk
         clear ht hf
         obtain ⟨ht,hf⟩:=z8 h
         clear h
         by_cases hop:inO ⟨bw,bk,bi,bm⟩ (List.take 5 (zl l b.toNat hh.toNat)) (hT (zl l b.toNat hh.toNat))
         ·have h:=ht (decide_eq_true hop)
          have dop:decide (inO ⟨bw,bk,bi,bm⟩ (List.take 5 (zl l b.toNat hh.toNat)) (List.take (hN (zl l b.toNat hh.toNat)).toNat (List.drop 5 (zl l b.toNat hh.toNat))))=true:=decide_eq_true hop
          clear ht hf
          obtain ⟨ht,hf⟩:=z8 h
          clear h
          by_cases hi:iA (inT ⟨bw,bk,bi,bm⟩ (hT (zl l b.toNat hh.toNat)))= -1
          ·have h:=ht (decide_eq_true hi)
           have di:decide (iA (inT ⟨bw,bk,bi,bm⟩ (List.take (hN (zl l b.toNat hh.toNat)).toNat (List.drop 5 (zl l b.toNat hh.toNat))))= -1)=true:=decide_eq_true hi
           rcases W with _|⟨aw,ak,ai,am⟩
           all_goals (
             dsimp only [xv]
             repeat ((conv=>whnf);first|refine zu ?_|refine zg ?_|refine zh ?_|refine zb ?_|refine zr (by first|exact dpk|(rw [dpk];rfl)|exact e1|(rw [e1];rfl)) ?_|refine zj (by first|exact dpk|(rw [dpk];rfl)|exact e1|(rw [e1];rfl)) ?_|refine zk (by first|exact dpk|(rw [dpk];rfl)|exact e1|(rw [e1];rfl)) ?_)
             conv=>whnf
             rw [hdE,hKe,hNe]
             repeat ((conv=>whnf);first|refine zu ?_|refine zg ?_|refine zh ?_|refine zb ?_|refine zr (by first|exact d20|(rw [d20];rfl)|exact dop|(rw [dop];rfl)|exact di|(rw [di];rfl)) ?_|refine zj (by first|exact d20|(rw [d20];rfl)|exact dop|(rw [dop];rfl)|exact di|(rw [di];rfl)) ?_|refine zk (by first|exact d20|(rw [d20];rfl)|exact dop|(rw [dop];rfl)|exact di|(rw [di];rfl)) ?_)
             conv=>whnf
             refine yi fun l' hl'=>?_
             have hdr':=hdrop l' hl'.1
             refine za ?_
             refine yr (x0 h l' ⟨hl'.1,hcn l' hl'.1 hl'.2⟩) ?_
             exact zn)
          ·have h:=hf (decide_eq_false hi)
           have di:decide (iA (inT ⟨bw,bk,bi,bm⟩ (List.take (hN (zl l b.toNat hh.toNat)).toNat (List.drop 5 (zl l b.toNat hh.toNat))))= -1)=false:=decide_eq_false hi
           rcases W with _|⟨aw,ak,ai,am⟩
           all_goals (
             dsimp only [xv]
             repeat ((conv=>whnf);first|refine zu ?_|refine zg ?_|refine zh ?_|refine zb ?_|refine zr (by first|exact dpk|(rw [dpk];rfl)|exact e1|(rw [e1];rfl)) ?_|refine zj (by first|exact dpk|(rw [dpk];rfl)|exact e1|(rw [e1];rfl)) ?_|refine zk (by first|exact dpk|(rw [dpk];rfl)|exact e1|(rw [e1];rfl)) ?_)
             conv=>whnf
             rw [hdE,hKe,hNe]
             repeat ((conv=>whnf);first|refine zu ?_|refine zg ?_|refine zh ?_|refine zb ?_|refine zr (by first|exact d20|(rw [d20];rfl)|exact dop|(rw [dop];rfl)|exact di|(rw [di];rfl)) ?_|refine zj (by first|exact d20|(rw [d20];rfl)|exact dop|(rw [dop];rfl)|exact di|(rw [di];rfl)) ?_|refine zk (by first|exact d20|(rw [d20];rfl)|exact dop|(rw [dop];rfl)|exact di|(rw [di];rfl)) ?_)
             conv=>whnf
             refine yi fun l' hl'=>?_
             repeat ((conv=>whnf);first|refine zu ?_|refine zg ?_|refine zh ?_|refine zb ?_|refine zr (by first|exact di|(rw [di];rfl)) ?_|refine zj (by first|exact di|(rw [di];rfl)) ?_|refine zk (by first|exact di|(rw [di];rfl)) ?_)
             conv=>whnf
             refine yr (x0 h l' hl') ?_
             exact zn)
         ·have h:=hf (decide_eq_false hop)
          have dop:decide (inO ⟨bw,bk,bi,bm⟩ (List.take 5 (zl l b.toNat hh.toNat)) (List.take (hN (zl l b.toNat hh.toNat)).toNat (List.drop 5 (zl l b.toNat hh.toNat))))=false:=decide_eq_false hop
          rcases W with _|⟨aw,ak,ai,am⟩
          all_goals (
            dsimp only [xv]
            repeat ((conv=>whnf);first|refine zu ?_|refine zg ?_|refine zh ?_|refine zb ?_|refine zr (by first|exact dpk|(rw [dpk];rfl)|exact e1|(rw [e1];rfl)) ?_|refine zj (by first|exact dpk|(rw [dpk];rfl)|exact e1|(rw [e1];rfl)) ?_|refine zk (by first|exact dpk|(rw [dpk];rfl)|exact e1|(rw [e1];rfl)) ?_)
            conv=>whnf
            rw [hdE,hKe,hNe]
            repeat ((conv=>whnf);first|refine zu ?_|refine zg ?_|refine zh ?_|refine zb ?_|refine zr (by first|exact d20|(rw [d20];rfl)|exact dop|(rw [dop];rfl)) ?_|refine zj (by first|exact d20|(rw [d20];rfl)|exact dop|(rw [dop];rfl)) ?_|refine zk (by first|exact d20|(rw [d20];rfl)|exact dop|(rw [dop];rfl)) ?_)
            conv=>whnf
            refine yr h ?_
            exact zn)
      ·have h:=hf (decide_eq_false ha)
       have e1:decide (hA (List.take (Int.toNat 5) (List.drop (Int.toNat 0) (zl l b.toNat hh.toNat))) true= -1)=false:=decide_eq_false (by rw [hdE,hAe];exact ha)
       have eA:hA (List.take (Int.toNat 5) (List.drop (Int.toNat 0) (zl l b.toNat hh.toNat))) (!false)=hA (zl l b.toNat hh.toNat) true:=by rw [hdE,hAe];rfl
       have e2:decide (hA (zl l b.toNat hh.toNat) true= -1)=false:=decide_eq_false ha
       rcases W with _|⟨aw,ak,ai,am⟩
       all_goals (
         dsimp only [xv]
         repeat ((conv=>whnf);first|refine zu ?_|refine zg ?_|refine zh ?_|refine zb ?_|refine zr (by first|exact dpk|(rw [dpk];rfl)|exact e1|(rw [e1];rfl)) ?_|refine zj (by first|exact dpk|(rw [dpk];rfl)|exact e1|(rw [e1];rfl)) ?_|refine zk (by first|exact dpk|(rw [dpk];rfl)|exact e1|(rw [e1];rfl)) ?_)
         conv=>whnf
         rw [eA]
         repeat ((conv=>whnf);first|refine zu ?_|refine zg ?_|refine zh ?_|refine zb ?_|refine zr (by first|exact e2|(rw [e2];rfl)) ?_|refine zj (by first|exact e2|(rw [e2];rfl)) ?_|refine zk (by first|exact e2|(rw [e2];rfl)) ?_)
         conv=>whnf
         refine yr h ?_
         exact zn)
   ·exact h.elim
theorem zxm {R:Option Kq} {kind:Int} {hd r:List UInt8} {ok okN ok2 okN2:Int→List UInt8→Prop} {no bad no2 bad2:Int→Prop} (h:zu2 R kind hd r ok okN no bad) (h1: ∀k d,ok k d→ok2 k d) (h2: ∀k d,okN k d→okN2 k d) (h3: ∀a,no a→no2 a) (h4: ∀a,bad a→bad2 a):zu2 R kind hd r ok2 okN2 no2 bad2:=by
  cases R with
  |none=>exact h1 _ _ h
  |some k=>
   obtain ⟨ht,hf⟩:=z8 h
   refine zbw (fun e=>h1 _ _ (ht e)) (fun e=>?_)
   obtain ⟨ht,hf⟩:=z8 (hf e)
   refine zbw (fun e=>?_) (fun e=>h3 _ (hf e))
   obtain ⟨ht,hf⟩:=z8 (ht e)
   exact zbw (fun e=>h2 _ _ (ht e)) (fun e=>h4 _ (hf e))
theorem z4s {R:Option Kq} {held:List UInt8} {ok ok2:Int→List UInt8→Option Kq→Prop} {no bad no2 bad2:Int→Prop} (h:nxM R held ok no bad) (h1: ∀k d R',R'.isSome=R.isSome→ok k d R'→ok2 k d R') (h3: ∀a,no a→no2 a) (h4: ∀a,bad a→bad2 a):nxM R held ok2 no2 bad2:=by
  obtain ⟨ht,hf⟩:=z8 h
  refine zbw (fun e=>h3 _ (ht e)) (fun e=>?_)
  obtain ⟨ht,hf⟩:=z8 (hf e)
  refine zbw (fun e=>?_) (fun e=>h3 _ (hf e))
  obtain ⟨ht,hf⟩:=z8 (ht e)
  exact zbw (fun e=>h3 _ (ht e)) (fun e=>zxm (hf e) (fun k d=>h1 k d R rfl) (fun k d=>h1 k d (upK R) (by cases R<;>rfl)) h3 h4)
attribute [local irreducible] nxM
def zzk:Spec:=fun args hp K=>match args with
  | [.ptr 0 0 0 []]=>stM hp fun p W R f n b h l=>Pre (yj n n n l b h∧wOK R) (ye (decide (f= -1)) (nxM R (zl l b.toNat h.toNat)
        (fun k d R'=>zaz fun l':List UInt8=>(l'.length=n∧zl l' ((b+(5+hN (zl l b.toNat h.toNat))).tmod n).toNat (h-(5+hN (zl l b.toNat h.toNat))).toNat=hR (zl l b.toNat h.toNat))→K (.tup [.agg [.int k,.str d],.bool true,.int (-1)]) (stH p W R' (-1) n ((b+(5+hN (zl l b.toNat h.toNat))).tmod n) (h-(5+hN (zl l b.toNat h.toNat))) l'))
        (fun a=>K (.tup [.agg [.int 0,.str []],.bool false,.int a]) (stH p W R a n b h l))
        (fun a=>zaz fun l':List UInt8=>l'.length=n→K (.tup [.agg [.int 0,.str []],.bool false,.int a]) (stH p W (upK R) a n b h l'))) (K (.tup [.agg [.int 0,.str []],.bool false,.int f]) (stH p W R f n b h l)))
  |_=>False
set_option maxHeartbeats 16000000 in
theorem zz1:zp prog 35 zzk:=by
  refine zm zau (zd z8x zi) rfl func35 rfl call35 (D:=ymz) ?_ ?_
  ·intro args hp K h
   unfold zzk at h
   split at h
   ·exact Nat.le_of_ble_eq_true rfl
   ·exact h.elim
  ·intro args hp K h
   unfold zzk at h
   split at h
   ·obtain ⟨t0,t1,t2,t3,t4,p,W,R,f,n,b,hh,l,ehp,h9⟩:=zey h
    clear h
    subst ehp
    obtain ⟨hpre,h⟩:=zq h9
    clear h9
    obtain ⟨ht,hf⟩:=z8 h
    clear h
    by_cases hfm:f= -1
    ·have h:=ht (decide_eq_true hfm)
     subst hfm
     rcases W with _|⟨aw,ak,ai,am⟩<;>rcases R with _|⟨bw,bk,bi,bm⟩
     all_goals (
       dsimp only [xv]
       refine za ?_
       refine z4s h ?_ ?_ ?_
       ·intro k d R' he h
        rcases R' with _|⟨bw,bk,bi,bm⟩
        all_goals first|(exact Bool.noConfusion (show false=true from he))|(exact Bool.noConfusion (show true=false from he))|(
          conv=>whnf
          refine yi fun l' hl'=>?_
          refine za ?_
          refine yr (x0 h l' hl') ?_
          exact zn)
       ·intro a h
        refine za ?_
        refine yr h ?_
        exact zn
       ·intro a h
        conv=>whnf
        refine yi fun l' hl'=>?_
        refine za ?_
        refine yr (x0 h l' hl') ?_
        exact zn)
    ·have h:=hf (decide_eq_false hfm)
     have d0:=decide_eq_false hfm
     rcases W with _|⟨aw,ak,ai,am⟩<;>rcases R with _|⟨bw,bk,bi,bm⟩
     all_goals (
       dsimp only [xv]
       repeat ((conv=>whnf);first|refine zu ?_|refine zg ?_|refine zh ?_|refine zb ?_|refine zr (by first|exact d0|(rw [d0];rfl)) ?_|refine zj (by first|exact d0|(rw [d0];rfl)) ?_|refine zk (by first|exact d0|(rw [d0];rfl)) ?_)
       conv=>whnf
       refine yr h ?_
       exact zn)
   ·exact h.elim
end Go.Sym.Z

namespace Go.Sym.Z
open Go Go.Proofs.Tryz Go.Sym.Lp Go.Sym.Ring Go.Sym.Cha Go.Sym.Sha Go.Sym.Hk Go.Sym.Gcm
set_option maxRecDepth 100000
def ylx:List (Nat×List PStep):= []
def yk9:List (Nat×TyI):= [(3,ty3),(4,ty4),(5,ty5),(9,ty9),(48,zd6),(51,zeb),(113,xw),(99,xj),(103,zgc),(68,zmk),(70,zmn),(104,zgh),(97,zqc),(56,zpa),(121,zf8),(93,zmm),(43,zlv)]
theorem ya3: ∀t i,y8 yk9 t=some i→yt prog t i:=(zc zbg (zc zbj (zc zbc (zc zbf (zc zaq (zc zap (zc zai (zc za6 (zc ze7 (zc zhz (zc zhv (zc zfh (zc zj3 (zc zjx (zc ze3 (zc zhy (zc zf5 x1)))))))))))))))))
attribute [local irreducible] x3 exF kyF ivF y6 xq y3 inL ncF lnz iA hA hN hK za7 zcl hO hP hR hT iK hdF zl nxM zdf
def rst (n:Nat) (b h:Int) (l held:List UInt8):Prop:=yj n n n l b h∧zl l b.toNat h.toNat=held∧h=(held.length:Int)
theorem zzs {n:Nat} {b h:Int} {l held:List UInt8} (hr:rst n b h l held):yj n n n l b h:=hr.1
theorem zvb {n:Nat} {b h:Int} {l held:List UInt8} (hr:rst n b h l held):zl l b.toNat h.toNat=held:=hr.2.1
theorem z16 {n:Nat} (h:1≤n∧n≤1048576):rst n 0 0 (List.replicate n 0) []:=by
  refine ⟨?_,?_,rfl⟩
  ·unfold yj;rw [List.length_replicate];omega
  ·exact List.length_eq_zero_iff.1 (zag (by rw [List.length_replicate];exact Nat.zero_le _) (Nat.zero_le _))
theorem z77 {n:Nat} {b h:Int} {l held:List UInt8} (hn:1≤n∧n≤1048576) (hl:l.length=n) (hb:0≤b∧b<n) (hh:0≤h∧h≤n) (hc:zl l b.toNat h.toNat=held):rst n b h l held:=by
  have e:h=(held.length:Int):=by rw [←hc,zag (by omega) (by omega)];omega
  exact ⟨by unfold yj;omega,hc,e⟩
theorem zw4 {n:Nat} {b h:Int} {l held l' s:List UInt8} (hr:rst n b h l held) (hl:l'.length=n∧zl l' b.toNat (h+min (s.length:Int) (n-h)).toNat=zl l b.toNat h.toNat++s.take (min (s.length:Int) (n-h)).toNat):
    rst n b (h+min (s.length:Int) (n-h)) l' (held++s.take (min (s.length:Int) (n-h)).toNat):=by
  have h1:=hr.1
  unfold yj at h1
  exact z77 (by omega) hl.1 (by omega) (by omega) (by rw [hl.2,hr.2.1])
theorem z7g {n:Nat} {b h k:Int} {l held l':List UInt8} {x:List UInt8} (hr:rst n b h l held) (hk:0≤k∧k≤h) (hl:l'.length=n∧zl l' ((b+k).tmod n).toNat (h-k).toNat=x):rst n ((b+k).tmod n) (h-k) l' x:=by
  have h1:=hr.1
  unfold yj at h1
  exact z77 (by omega) hl.1 ⟨Int.tmod_nonneg _ (by omega),Int.tmod_lt_of_pos _ (by omega)⟩ (by omega) hl.2
inductive NxR where
  |ok (k:Int) (d:List UInt8) (R:Option Kq)
  |no (a:Int)
  |bad (a:Int)
def nxR (R:Option Kq) (held:List UInt8):NxR:=
  if held.length<5 then .no (-1) else if hA held R.isSome= -1 then (if (held.length:Int)<5+hN held then .no (-1) else match R with
   |none=> .ok (hK held) (hT held) none
   |some k=>if hK held=20 then .ok (hK held) (hT held) (some k) else if inO k (held.take 5) (hT held) then (if iA (inT k (hT held))= -1 then .ok (iK (inT k (hT held))) ((inT k (hT held)).take (lnz (inT k (hT held)) (inT k (hT held)).length-1)) (upK (some k)) else .bad (iA (inT k (hT held)))) else .no 20) else .no (hA held R.isSome)
def nxP (x:NxR) (ok:Int→List UInt8→Option Kq→Prop) (no bad:Int→Prop):Prop:=match x with
  | .ok k d R=>ok k d R
  | .no a=>no a
  | .bad a=>bad a
attribute [local semireducible] nxM in
theorem zad {R:Option Kq} {held:List UInt8} {ok:Int→List UInt8→Option Kq→Prop} {no bad:Int→Prop} (h:nxP (nxR R held) ok no bad):nxM R held ok no bad:=by
  unfold nxM
  unfold nxR at h
  by_cases h5:held.length<5
  ·rw [if_pos h5] at h;exact zj (decide_eq_true h5) h
  ·rw [if_neg h5] at h
   refine zk (decide_eq_false h5) ?_
   by_cases ha:hA held R.isSome= -1
   ·rw [if_pos ha] at h
    refine zj (decide_eq_true ha) ?_
    by_cases hs:(held.length:Int)<5+hN held
    ·rw [if_pos hs] at h;exact zj (decide_eq_true hs) h
    ·rw [if_neg hs] at h
     refine zk (decide_eq_false hs) ?_
     cases R with
     |none=>exact h
     |some k=>
      dsimp only at h
      show ye _ _ _
      by_cases hk:hK held=20
      ·rw [if_pos hk] at h;exact zj (decide_eq_true hk) h
      ·rw [if_neg hk] at h
       refine zk (decide_eq_false hk) ?_
       by_cases ho:inO k (held.take 5) (hT held)
       ·rw [if_pos ho] at h
        refine zj (decide_eq_true ho) ?_
        by_cases hi:iA (inT k (hT held))= -1
        ·rw [if_pos hi] at h;exact zj (decide_eq_true hi) h
        ·rw [if_neg hi] at h;exact zk (decide_eq_false hi) h
       ·rw [if_neg ho] at h;exact zk (decide_eq_false ho) h
   ·rw [if_neg ha] at h;exact zk (decide_eq_false ha) h
def abS:List UInt8:= [22,3,3,0,2,97,98]
theorem yf4:([]:List UInt8)++List.take (min ((zdf 0 none 22 [97,98]).length:Int) (((Int.toNat 33290:Nat):Int)-0)).toNat (zdf 0 none 22 [97,98])=abS:=by
  have e:zdf 0 none 22 [97,98]=abS:=by unfold zdf hdF abS;rfl
  rw [e];decide+kernel
theorem zun:((zdf 0 none 22 [97,98]).length:Int)=7:=by
  have e:zdf 0 none 22 [97,98]=abS:=by unfold zdf hdF abS;rfl
  rw [e];decide+kernel
theorem ykf:decide (hA abS false= -1)=true:=by unfold hA;decide+kernel
theorem z0o:hN abS=2:=by unfold hN;decide+kernel
theorem yj1:hK abS=22:=by unfold hK;decide+kernel
theorem yiz:hT abS= [97,98]:=by unfold hT;rw [z0o];decide+kernel
theorem yjy:hR abS= []:=by unfold hR;rw [z0o];decide+kernel
theorem yjw:nxR none abS= .ok 22 [97,98] none:=by
  have h5: ¬abS.length<5:=by decide
  unfold nxR
  rw [if_neg h5,if_pos (show hA abS (none:Option Kq).isSome= -1 from of_decide_eq_true ykf),if_neg (by rw [z0o];decide)]
  dsimp only
  rw [yj1,yiz]
def zmx:Spec:=fun args hp K=>match args,hp with
  | [],[]=>K (.bool true) []
  |_,_=>False
set_option maxHeartbeats 8000000 in
theorem z9g:zp prog 28 zmx:=by
  refine zm ya3 (zd z4m (zd z4u (zd z00 (zd z0x (zd zz9 (zd zz1 zi)))))) rfl func28 rfl call28 (D:=ylx) ?_ ?_
  ·intro args hp K h
   unfold zmx at h
   split at h
   ·exact Nat.le_of_ble_eq_true rfl
   ·exact h.elim
  ·intro args hp K h
   unfold zmx at h
   split at h
   ·have hp1:wOK none∧(0:Int)≤0∧(0:Int)≤16384∧([97,98]:List UInt8).length≤140737488351232:=⟨trivial,by decide,by decide,by decide⟩
    have hr0:=z16 (n:=Int.toNat 33290) (by decide)
    have hp2:yj (Int.toNat 33290) (Int.toNat 33290) (Int.toNat 33290) (List.replicate (Int.toNat 33290) 0) 0 0∧(zdf 0 none 22 [97,98]).length≤4611686018427387904:=⟨zzs hr0,by have:=zun;omega⟩
    refine za ?_
    refine yi fun l hl=>?_
    have hr1:=zw4 hr0 hl
    rw [yf4] at hr1
    rw [zun] at hr1
    rw [zun]
    have hm:(0:Int)+min 7 (((Int.toNat 33290:Nat):Int)-0)=7:=by decide
    rw [hm] at hr1
    have hm2:min (7:Int) (((Int.toNat 33290:Nat):Int)-0)=7:=by decide
    rw [hm2]
    rw [show (0:Int)+7=7 from rfl]
    have hp3:yj (Int.toNat 33290) (Int.toNat 33290) (Int.toNat 33290) l 0 7∧wOK none:=⟨zzs hr1,trivial⟩
    refine za ?_
    rw [zvb hr1]
    refine zad ?_
    rw [yjw,z0o,yjy]
    conv=>whnf
    refine yi fun l' hl'=>?_
    have e0:(7:Int)-(5+2)=0:=rfl
    have e1:((0:Int)+(5+2)).tmod ((Int.toNat 33290:Nat):Int)=7:=by decide
    rw [e0,e1]
    refine za ?_
    exact zf [] h
   ·exact h.elim
end Go.Sym.Z

namespace Go.Sym.Z
open Go Go.Proofs.Tryz Go.Sym.Lp Go.Sym.Ring Go.Sym.Cha Go.Sym.Sha Go.Sym.Hk Go.Sym.Gcm
set_option maxRecDepth 100000
attribute [local irreducible] x3 exF kyF ivF y6 xq y3 inL ncF lnz iA hA hN hK za7 zcl hO hP hR hT iK hdF zl nxM nxR zdf
end Go.Sym.Z

namespace Go.Sym.Z
open Go Go.Proofs.Tryz Go.Sym.Lp Go.Sym.Ring Go.Sym.Cha Go.Sym.Sha Go.Sym.Hk Go.Sym.Gcm
set_option maxRecDepth 100000
theorem zw6 {k:Kq} {held:List UInt8}:(∃a d,nxR (some k) held= .ok a d (some k))∨(∃a d,nxR (some k) held= .ok a d (some ⟨k.w,k.key,k.iv,k.m+1⟩))∨nxR (some k) held= .no (-1)∨(∃a,0≤a∧nxR (some k) held= .no a)∨(∃a,0≤a∧nxR (some k) held= .bad a):=by
  unfold nxR
  by_cases h5:held.length<5
  ·rw [if_pos h5];exact .inr (.inr (.inl rfl))
  ·rw [if_neg h5]
   by_cases ha:hA held (some k).isSome= -1
   ·rw [if_pos ha]
    by_cases hs:(held.length:Int)<5+hN held
    ·rw [if_pos hs];exact .inr (.inr (.inl rfl))
    ·rw [if_neg hs]
     dsimp only
     by_cases hk:hK held=20
     ·rw [if_pos hk];exact .inl ⟨_,_,rfl⟩
     ·rw [if_neg hk]
      by_cases ho:inO k (held.take 5) (hT held)
      ·rw [if_pos ho]
       by_cases hi:iA (inT k (hT held))= -1
       ·rw [if_pos hi];exact .inr (.inl ⟨_,_,rfl⟩)
       ·rw [if_neg hi];exact .inr (.inr (.inr (.inr ⟨_,(z81 _).resolve_left hi,rfl⟩)))
      ·rw [if_neg ho];exact .inr (.inr (.inr (.inl ⟨20,by decide,rfl⟩)))
   ·rw [if_neg ha];exact .inr (.inr (.inr (.inl ⟨_,(zx3 _ _).resolve_left ha,rfl⟩)))
theorem zvz {held:List UInt8}:(∃a d,nxR none held= .ok a d none)∨nxR none held= .no (-1)∨(∃a,0≤a∧nxR none held= .no a):=by
  unfold nxR
  by_cases h5:held.length<5
  ·rw [if_pos h5];exact .inr (.inl rfl)
  ·rw [if_neg h5]
   by_cases ha:hA held (none:Option Kq).isSome= -1
   ·rw [if_pos ha]
    by_cases hs:(held.length:Int)<5+hN held
    ·rw [if_pos hs];exact .inr (.inl rfl)
    ·rw [if_neg hs];exact .inl ⟨_,_,rfl⟩
   ·rw [if_neg ha];exact .inr (.inr ⟨_,(zx3 _ _).resolve_left ha,rfl⟩)
theorem zhr {R R':Option Kq} {held:List UInt8} {a:Int} {d:List UInt8} (h:nxR R held= .ok a d R'):0≤5+hN held∧5+hN held≤(held.length:Int):=by
  have hn:=z08 held
  refine ⟨by omega,?_⟩
  unfold nxR at h
  by_cases h5:held.length<5
  ·rw [if_pos h5] at h;cases h
  ·rw [if_neg h5] at h
   by_cases ha:hA held R.isSome= -1
   ·rw [if_pos ha] at h
    by_cases hs:(held.length:Int)<5+hN held
    ·rw [if_pos hs] at h;cases h
    ·omega
   ·rw [if_neg ha] at h;cases h
def kO:Option Kq→Kq
  |some k=>k
  |none=>⟨0,[],[],0⟩
end Go.Sym.Z
