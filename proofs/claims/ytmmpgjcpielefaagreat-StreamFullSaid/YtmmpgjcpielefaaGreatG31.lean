/-
  Contracts of functions of the program, each said of symbolic values, and plain laws; no condition beyond each statement's own.
-/
import Derived.Test.YtmmpgjcpielefaaGreatG30
import Derived.Test.YtmmpgjcpielefaaGreatG29
set_option linter.unusedSimpArgs false
set_option linter.unusedVariables false
namespace Go.Sym.Z
open Go Go.Proofs.Tryz Go.Sym.Lp Go.Sym.Ring Go.Sym.Cha Go.Sym.Sha Go.Sym.Hk
set_option maxRecDepth 100000
attribute [local irreducible] zaf exF kyF ivF y0 xo yw inL ncF hdF
def ya3:List (Nat×List PStep):= []
def zbh (p:Int) (W:Option Kq) (kind:Int) (s:List UInt8):List UInt8:=match W with
  |none=>hdF kind s.length++s
  |some k=>yt p k.w k.key k.iv k.m kind s
def upK:Option Kq→Option Kq
  |none=>none
  |some k=>some ⟨k.w,k.key,k.iv,k.m+1⟩
def wOK:Option Kq→Prop
  |none=>True
  |some k=>zrs k.w k.key k.iv k.m
def zow:Spec:=fun args hp K=>match args with
  | [.ptr 0 0 0 [],.int kind,.str s]=>stM hp fun p W R f n b h l=>Pre (wOK W∧0≤p∧p≤16384∧s.length≤140737488351232) (yg (decide (xe kind∧s.length≤16384)) (K (.tup [.str (zbh p W kind s),.int 0]) (stH p (upK W) R f n b h l)) (K (.tup [.str [],.int 2100]) (stH p W R f n b h l)))
  |_=>False
def zpv:Spec:=fun args hp K=>match args with
  | [.ptr 0 0 0 [],.int kind,.str s]=>stM hp fun p W R f n b h l=>Pre (wOK W∧0≤p∧p≤16384∧s.length≤140737488351232) (yg (decide (xe kind∧s.length≤16384)) (K (.tup [.str (zbh p W kind s),.int 0]) (stH p (upK W) R f n b h l)) (K (.tup [.str [],.int 2300]) (stH p W R f n b h l)))
  |_=>False
set_option maxHeartbeats 8000000 in
theorem zyf:zp prog 45 zow:=by
  refine zl x6 (ze zvx (ze z3i (ze z5v (ze zvu (ze zxt zg))))) rfl func45 rfl call45 (D:=ybe) ?_ ?_
  ·intro args hp K h
   unfold zow at h
   split at h
   ·exact Nat.le_of_ble_eq_true rfl
   ·exact h.elim
  ·intro args hp K h
   unfold zow at h
   split at h
   ·rename_i kind s
    obtain ⟨t0,t1,t2,t3,t4,p,W,R,f,n,b,hh,l,ehp,h9⟩:=zdx h
    clear h
    subst ehp
    have h:=h9
    clear h9
    obtain ⟨⟨hok,hp0,hp1,hs⟩,h⟩:=zi h
    obtain ⟨ht,hf⟩:=yc h
    by_cases hk:xe kind
    ·have dk:=decide_eq_true hk
     by_cases hl:s.length≤16384
     ·have h:=ht (decide_eq_true ⟨hk,hl⟩)
      rcases W with _|⟨aw,akey,aiv,am⟩
      ·have hhl:=zh4 kind s.length
       rcases R with _|⟨bw,bk,bi,bm⟩
       all_goals (
         dsimp only [zav]
         repeat ((conv=>whnf);first|refine zy ?_|refine zk ?_|refine zj ?_|refine zc ?_|refine zv (by first|exact dk|(rw [dk];rfl)) ?_|refine zr (by first|exact dk|(rw [dk];rfl)) ?_|refine zq (by first|exact dk|(rw [dk];rfl)) ?_)
         conv=>whnf
         refine yy h ?_
         exact zo)
      ·have hok:zrs aw akey aiv am:=hok
       have hky:=zq7 hok
       obtain ⟨hw,hkl,hiv,hm0,hm1⟩:=hok
       have hnl:=zus aiv am
       have hin:0≤(s.length:Int)∧(s.length:Int)≤16384∧0≤p∧p≤16384:=⟨by omega,by omega,hp0,hp1⟩
       obtain ⟨hi1,hi2⟩:=ztj (p:=p) (n:=(s.length:Int)) (by omega) (by omega) hp0
       obtain ⟨L,hL⟩: ∃L:Nat,inL p (s.length:Int)=(L:Int):=⟨_,(Int.toNat_of_nonneg (by omega)).symm⟩
       have hLn:(inL p (s.length:Int)).toNat=L:=by rw [hL];exact Int.toNat_natCast _
       dsimp only [zbh,upK] at h
       unfold yt zan at h
       have hcast:(L:Int)+16=((L+16:Nat):Int):=by omega
       rw [hLn,hL,hcast] at h
       have hLt:((L:Int)+16).toNat=L+16:=by omega
       have hix:off (ya [] ((s.length:Int)).toNat ty5.sz)=s.length:=by rw [zw];show 0+((s.length:Int)).toNat*1=_;omega
       have hsl1:s.length+1≤L:=by omega
       have hB:=z0b (L:=L) (s:=s) hsl1 (UInt8.ofInt kind) hix
       obtain ⟨BB,hBB⟩: ∃BB,BB=s++UInt8.ofInt kind ::List.replicate (L+16-s.length-1) 0:=⟨_,rfl⟩
       have hBl:BB.length=L+16:=by rw [hBB,List.length_append,List.length_cons,List.length_replicate];omega
       have hBt:BB.take (L+16-16)=s++UInt8.ofInt kind ::List.replicate (L-s.length-1) 0:=by rw [hBB,Nat.add_sub_cancel];exact zss hsl1 _
       rw [←hBB] at hB
       have hps:off (ya [] ((s.length:Int)).toNat ty5.sz)<(zt (List.replicate (L+16) 0) (off []) (List.take (min s.length (L+16)) s)).length:=by
         have:=congrArg List.length hB
         rw [List.length_set] at this
         rw [hix];omega
       have hhl:=zh4 23 ((L+16:Nat):Int)
       have hAl:(y0 aw akey (ncF aiv am) (hdF 23 ((L+16:Nat):Int)) (BB.take (L+16-16))).length=L+16:=by
         rw [zcc,List.length_append,zcb,xw,List.length_take,hBl];omega
       have hpn:L+16=BB.length∧16≤L+16∧znr aw akey (ncF aiv am) (hdF 23 ((L+16:Nat):Int)) (((L+16:Nat):Int)+0-16):=⟨hBl.symm,by omega,hky,by rw [hnl,hiv],by omega,by omega⟩
       have hpo:off []+(L+16)≤(y0 aw akey (ncF aiv am) (hdF 23 ((L+16:Nat):Int)) (BB.take (L+16-16))).length:=by rw [hAl];show 0+_≤_;omega
       have hte:List.take (L+16) (List.drop (off []) (y0 aw akey (ncF aiv am) (hdF 23 ((L+16:Nat):Int)) (BB.take (L+16-16))))=y0 aw akey (ncF aiv am) (hdF 23 ((L+16:Nat):Int)) (BB.take (L+16-16)):=List.take_of_length_le (Nat.le_of_eq hAl)
       rw [←hBt] at h
       rcases R with _|⟨bw,bk,bi,bm⟩
       all_goals (
         dsimp only [zav]
         repeat ((conv=>whnf);first|refine zy ?_|refine zk ?_|refine zj ?_|refine zc ?_|refine zv (by first|exact dk|(rw [dk];rfl)) ?_|refine zr (by first|exact dk|(rw [dk];rfl)) ?_|refine zq (by first|exact dk|(rw [dk];rfl)) ?_)
         conv=>whnf
         rw [hL,hLt]
         refine za ?_
         rw [hB]
         refine za ?_
         rw [hte]
         refine za ?_
         refine yy h ?_
         exact zo)
     ·have h:=hf (decide_eq_false fun hh=>hl hh.2)
      rcases W with _|⟨aw,akey,aiv,am⟩<;>rcases R with _|⟨bw,bk,bi,bm⟩
      all_goals (
        dsimp only [zav]
        repeat ((conv=>whnf);first|refine zy ?_|refine zk ?_|refine zj ?_|refine zc ?_|refine zv (by first|exact dk|(rw [dk];rfl)) ?_|refine zr (by first|exact dk|(rw [dk];rfl)) ?_|refine zq (by first|exact dk|(rw [dk];rfl)) ?_)
        conv=>whnf
        refine yy h ?_
        exact zo)
    ·have dk:=decide_eq_false hk
     have h:=hf (decide_eq_false fun hh=>hk hh.1)
     rcases W with _|⟨aw,akey,aiv,am⟩<;>rcases R with _|⟨bw,bk,bi,bm⟩
     all_goals (
       dsimp only [zav]
       repeat ((conv=>whnf);first|refine zy ?_|refine zk ?_|refine zj ?_|refine zc ?_|refine zv (by first|exact dk|(rw [dk];rfl)) ?_|refine zr (by first|exact dk|(rw [dk];rfl)) ?_|refine zq (by first|exact dk|(rw [dk];rfl)) ?_)
       conv=>whnf
       refine yy h ?_
       exact zo)
   ·exact h.elim
attribute [local irreducible] yt zbh
set_option maxHeartbeats 8000000 in
theorem zu6:zp prog 32 zpv:=by
  refine zl x6 (ze zyf (ze zud zg)) rfl func32 rfl call32 (D:=ya3) ?_ ?_
  ·intro args hp K h
   unfold zpv at h
   split at h
   ·exact Nat.le_of_ble_eq_true rfl
   ·exact h.elim
  ·intro args hp K h
   unfold zpv at h
   split at h
   ·rename_i kind s
    obtain ⟨t0,t1,t2,t3,t4,p,W,R,f,n,b,hh,l,ehp,h9⟩:=zdx h
    clear h
    subst ehp
    have h:=h9
    clear h9
    obtain ⟨hpre,h⟩:=zi h
    obtain ⟨ht,hf⟩:=yc h
    generalize e:decide (xe kind∧s.length≤16384)=c at ht hf
    cases c
    ·have h:=hf rfl
     rcases W with _|⟨aw,akey,aiv,am⟩<;>rcases R with _|⟨bw,bk,bi,bm⟩
     all_goals (
       dsimp only [zav]
       repeat ((conv=>whnf);first|refine zy ?_|refine zk ?_|refine zj ?_|refine zc ?_|refine zv (by first|exact e|(rw [e];rfl)) ?_|refine zr (by first|exact e|(rw [e];rfl)) ?_|refine zq (by first|exact e|(rw [e];rfl)) ?_)
       conv=>whnf
       refine yy h ?_
       exact zo)
    ·have h:=ht rfl
     rcases W with _|⟨aw,akey,aiv,am⟩<;>rcases R with _|⟨bw,bk,bi,bm⟩
     all_goals (
       dsimp only [zav]
       repeat ((conv=>whnf);first|refine zy ?_|refine zk ?_|refine zj ?_|refine zc ?_|refine zv (by first|exact e|(rw [e];rfl)) ?_|refine zr (by first|exact e|(rw [e];rfl)) ?_|refine zq (by first|exact e|(rw [e];rfl)) ?_)
       conv=>whnf
       refine yy h ?_
       exact zo)
   ·exact h.elim
end Go.Sym.Z

namespace Go.Sym.Ring
open Go Go.Sym Go.Sym.Lp
set_option maxRecDepth 100000
theorem ybr {b a i n:Nat} (hb:b<n) (ha:a≤n) (hi:i<n):((if b+i<n then b+i else b+i-n)+n-(b+a)%n)%n=if a≤i then i-a else i+n-a:=by
  rw [place hb ha]
  have hm: ∀x r:Nat,r<n→(x=r∨x=r+n)→x%n=r:=by
    intro x r hr h
    rcases h with h|h
    ·subst h;exact Nat.mod_eq_of_lt hr
    ·subst h;rw [Nat.add_mod_right,Nat.mod_eq_of_lt hr]
  apply hm
  ·split<;>omega
  ·(repeat' split)<;>omega
theorem zwc {l l' s:List UInt8} {b h a:Nat} (hb:b<l.length) (ha:a+s.length≤h) (hh:h≤l.length) (hl:l'.length=l.length)
    (hw: ∀i,i<l.length→l'[i]?=if (i+l.length-(b+a)%l.length)%l.length<s.length then s[(i+l.length-(b+a)%l.length)%l.length]? else l[i]?):
    zf l' b h=(zf l b h).take a++s++(zf l b h).drop (a+s.length):=by
  have hcl:(zf l b h).length=h:=xt (by omega) hh
  have htl:((zf l b h).take a).length=a:=by rw [List.length_take];omega
  apply List.ext_getElem?
  intro i
  by_cases hi:i<h
  ·have hq:(zf l' b h)[i]?=l'[if b+i<l.length then b+i else b+i-l.length]?:=by
     rw [zag (by omega) hi (by omega),hl];split<;>rfl
   have hq2:(zf l b h)[i]?=l[if b+i<l.length then b+i else b+i-l.length]?:=by
     rw [zag hb hi hh];split<;>rfl
   rw [hq,hw _ (by split<;>omega),ybr hb (by omega) (by omega),←hq2]
   by_cases h1:i<a
   ·rw [if_neg (show ¬a≤i by omega),if_neg (by omega),List.append_assoc,List.getElem?_append_left (by omega),List.getElem?_take,if_pos h1]
   ·rw [if_pos (show a≤i by omega)]
    by_cases h2:i<a+s.length
    ·rw [if_pos (by omega),List.getElem?_append_left (by rw [List.length_append];omega),List.getElem?_append_right (by omega),htl]
    ·rw [if_neg (by omega),List.getElem?_append_right (by rw [List.length_append];omega),List.getElem?_drop,List.length_append,htl]
     congr 1;omega
  ·rw [zcq (by omega) (by omega) (by omega),List.getElem?_eq_none (by rw [List.length_append,List.length_append,htl,List.length_drop,hcl];omega)]
theorem z43 {l s:List UInt8} {n p:Nat} (hl:l.length=n) (hf:p+s.length≤n) (i:Nat) (hi:i<n):
    (zt l p s)[i]?=if (i+n-p)%n<s.length then s[(i+n-p)%n]? else l[i]?:=by
  rw [zb1 (by omega)]
  by_cases hpi:p≤i
  ·have:(i+n-p)%n=i-p:=by rw [Nat.mod_eq_sub_mod (by omega),Nat.mod_eq_of_lt (by omega)];omega
   rw [this]
   by_cases h3:i<p+s.length
   ·rw [if_pos ⟨hpi,h3⟩,if_pos (by omega)]
   ·rw [if_neg (by omega),if_neg (by omega)]
  ·by_cases hp:p=n
   ·have h0:s= []:=List.length_eq_zero_iff.1 (by omega)
    subst h0
    rw [if_neg (by simp),if_neg (by simp)]
   ·have:(i+n-p)%n=i+n-p:=Nat.mod_eq_of_lt (by omega)
    rw [this,if_neg (by omega),if_neg (by omega)]
theorem z4g {l s:List UInt8} {n p:Nat} (hl:l.length=n) (hp:p<n) (hf:n<p+s.length) (hs:s.length≤n) (i:Nat) (hi:i<n):
    (zt (zt l p (s.take (n-p))) 0 ((s.drop (n-p)).take (s.length-(n-p))))[i]?=if (i+n-p)%n<s.length then s[(i+n-p)%n]? else l[i]?:=by
  have f1:(s.take (n-p)).length=n-p:=by rw [List.length_take];omega
  have f2:((s.drop (n-p)).take (s.length-(n-p))).length=s.length-(n-p):=by rw [List.length_take,List.length_drop];omega
  have g1:p+(s.take (n-p)).length≤l.length:=by omega
  rw [zb1 (by rw [xc g1];omega),zb1 g1,f1,f2]
  by_cases hpi:p≤i
  ·have:(i+n-p)%n=i-p:=by rw [Nat.mod_eq_sub_mod (by omega),Nat.mod_eq_of_lt (by omega)];omega
   rw [this,if_neg (by omega),if_pos (by omega),if_pos (by omega),List.getElem?_take,if_pos (by omega)]
  ·have:(i+n-p)%n=i+n-p:=Nat.mod_eq_of_lt (by omega)
   rw [this]
   by_cases h3:i<s.length-(n-p)
   ·rw [if_pos (by omega),if_pos (by omega),List.getElem?_take,if_pos (by omega),List.getElem?_drop]
    congr 1;omega
   ·rw [if_neg (by omega),if_neg (by omega),if_neg (by omega)]
theorem z3k {l s:List UInt8} {n:Nat} {b h a k:Int} (hl:l.length=n) (hb:0≤b) (hb':b<n) (hh:0≤h) (hh':h≤n) (ha:0≤a) (hk:0≤k) (hak:k≤h-a) (hp:(b+a).tmod n+k≤n) (hs:s.length=k.toNat):
    zf (zt l (off [(slO ((b+a).tmod n+k).toNat ((b+a).tmod n).toNat,1)]) s) b.toNat h.toNat=(zf l b.toNat h.toNat).take a.toNat++s++(zf l b.toNat h.toNat).drop (a.toNat+k.toNat)∧(zt l (off [(slO ((b+a).tmod n+k).toNat ((b+a).tmod n).toNat,1)]) s).length=n:=by
  have hm0:0≤(b+a).tmod n:=Int.tmod_nonneg _ (by omega)
  have hm1:(b+a).tmod n<n:=Int.tmod_lt_of_pos _ (by omega)
  have e0:((b+a).tmod n).toNat=(b.toNat+a.toNat)%n:=by rw [zc1 (by omega)];congr 1;omega
  by_cases h0:k=0
  ·subst h0
   have:s= []:=List.length_eq_zero_iff.1 (by simpa using hs)
   subst this
   have e:zt l (off [(slO ((b+a).tmod n+0).toNat ((b+a).tmod n).toNat,1)]) []=l:=by simp [zt]
   rw [e,List.append_nil]
   exact ⟨(List.take_append_drop _ _).symm,hl⟩
  ·rw [yv (by omega),e0]
   have hoff:off [((b.toNat+a.toNat)%n,1)]=(b.toNat+a.toNat)%n:=by simp [off,zib]
   rw [hoff,←hs]
   have hfit:(b.toNat+a.toNat)%n+s.length≤n:=by omega
   refine ⟨?_,by rw [xc (by omega),hl]⟩
   subst hl
   exact zwc (by omega) (by omega) (by omega) (xc hfit) (fun i hi=>z43 rfl hfit i hi)
theorem z39 {l s:List UInt8} {n:Nat} {b h a k:Int} (hl:l.length=n) (hb:0≤b) (hb':b<n) (hh:0≤h) (hh':h≤n) (ha:0≤a) (hk:0≤k) (hak:k≤h-a) (hp: ¬(b+a).tmod n+k≤n) (hs:s.length=k.toNat):
    zf (zt (zt l (off [(slO n ((b+a).tmod n).toNat,1)]) (s.take (n-((b+a).tmod n).toNat))) (off []) ((s.drop (n-((b+a).tmod n).toNat)).take (k-n+(b+a).tmod n).toNat)) b.toNat h.toNat=(zf l b.toNat h.toNat).take a.toNat++s++(zf l b.toNat h.toNat).drop (a.toNat+k.toNat)∧
    (zt (zt l (off [(slO n ((b+a).tmod n).toNat,1)]) (s.take (n-((b+a).tmod n).toNat))) (off []) ((s.drop (n-((b+a).tmod n).toNat)).take (k-n+(b+a).tmod n).toNat)).length=n:=by
  have hm0:0≤(b+a).tmod n:=Int.tmod_nonneg _ (by omega)
  have hm1:(b+a).tmod n<n:=Int.tmod_lt_of_pos _ (by omega)
  have e0:((b+a).tmod n).toNat=(b.toNat+a.toNat)%n:=by rw [zc1 (by omega)];congr 1;omega
  have e5:(k-n+(b+a).tmod n).toNat=s.length-(n-(b.toNat+a.toNat)%n):=by omega
  rw [e5,yv (by omega),e0,←hs]
  have hoff:off [((b.toNat+a.toNat)%n,1)]=(b.toNat+a.toNat)%n:=by simp [off,zib]
  have hlt:(b.toNat+a.toNat)%n<n:=Nat.mod_lt _ (by omega)
  rw [hoff]
  have e6:off []=0:=rfl
  rw [e6]
  have hf:n<(b.toNat+a.toNat)%n+s.length:=by omega
  have g1:(b.toNat+a.toNat)%n+(s.take (n-(b.toNat+a.toNat)%n)).length≤l.length:=by rw [List.length_take];omega
  have hlen:(zt (zt l ((b.toNat+a.toNat)%n) (s.take (n-(b.toNat+a.toNat)%n))) 0 ((s.drop (n-(b.toNat+a.toNat)%n)).take (s.length-(n-(b.toNat+a.toNat)%n)))).length=n:=by
    rw [xc (by rw [xc g1,List.length_take,List.length_drop];omega),xc g1,hl]
  refine ⟨?_,hlen⟩
  subst hl
  exact zwc (by omega) (by omega) (by omega) hlen (fun i hi=>z4g rfl hlt hf (by omega) i hi)
end Go.Sym.Ring

namespace Go.Sym.Z
open Go Go.Proofs.Tryz Go.Sym.Lp Go.Sym.Ring Go.Sym.Cha Go.Sym.Sha Go.Sym.Hk
set_option maxRecDepth 100000
attribute [local irreducible] zaf exF kyF ivF y0 xo yw inL ncF hdF lnz iA two zbe zf
def z9k:List (Nat×TyI):= [(3,ty3),(4,ty4),(5,ty5),(9,ty9),(48,zc6),(51,zcx),(113,zad),(99,x4),(103,zcv),(68,zg4),(70,zhj),(104,zcz),(97,zia),(56,zis),(121,zcy),(93,zg2),(43,zhk),(143,ze5)]
theorem zzd: ∀t i,yz z9k t=some i→yn prog t i:=(zb ty3_ok (zb zbu (zb zby (zb zbz (zb zaw (zb za2 (zb zaq (zb zbp (zb ze3 (zb ziz (zb zh7 (zb zf7 (zb zkl (zb zko (zb ze7 (zb zif (zb zip (zb zy0 zae))))))))))))))))))
structure Pq where
  oa:List (Nat×Nat)
  na:Nat
  ca:Nat
  ob:List (Nat×Nat)
  nb:Nat
  cb:Nat
  one:Bool
structure PqOK (q:Pq) (n:Nat) (b h a k:Int):Prop where
  h1:q.one=true→q.ob= []∧q.nb=0
  hn:q.na+q.nb=k.toNat
  ha:off q.oa+q.na≤n
  hb:off q.ob+q.nb≤n
  h2: ∀l:List UInt8,l.length=n→two l (off q.oa) q.na (off q.ob) q.nb=((zf l b.toNat h.toNat).drop a.toNat).take k.toNat
  h3: ∀l s:List UInt8,l.length=n→s.length=k.toNat→(zbe l (off q.oa) q.na (off q.ob) q.nb s).length=n∧zf (zbe l (off q.oa) q.na (off q.ob) q.nb s) b.toNat h.toNat=(zf l b.toNat h.toNat).take a.toNat++s++(zf l b.toNat h.toNat).drop (a.toNat+k.toNat)
theorem z7d {n:Nat} {b h a k:Int} (ca:Nat) (hb:0≤b) (hb':b<n) (hh:0≤h) (hh':h≤n) (ha:0≤a) (hk:0≤k) (hak:k≤h-a) (hp:(b+a).tmod n+k≤n):
    PqOK ⟨[(slO ((b+a).tmod n+k).toNat ((b+a).tmod n).toNat,1)],((b+a).tmod n+k).toNat-((b+a).tmod n).toNat,ca,[],0,0,true⟩ n b h a k:=by
  have hm0:0≤(b+a).tmod n:=Int.tmod_nonneg _ (by omega)
  have hm1:(b+a).tmod n<n:=Int.tmod_lt_of_pos _ (by omega)
  have hs:=zg9 ((b+a).tmod n+k).toNat ((b+a).tmod n).toNat
  refine ⟨fun _=>⟨rfl,rfl⟩,by dsimp only;omega,?_,by show 0+0≤n;omega,fun l hl=>?_,fun l s hl hsl=>?_⟩
  ·dsimp only
   show slO _ _+_≤n
   by_cases h0:k=0
   ·omega
   ·omega
  ·have:=znv (l:=l) (h:=h) hl hb hb' hh hh' ha hk hak hp
   unfold two
   show _++List.take 0 _=_
   rw [List.take_zero,List.append_nil]
   exact this
  ·obtain ⟨e1,e2⟩:=z3k (l:=l) (s:=s) (h:=h) hl hb hb' hh hh' ha hk hak hp hsl
   have e:zbe l (off [(slO ((b+a).tmod n+k).toNat ((b+a).tmod n).toNat,1)]) (((b+a).tmod n+k).toNat-((b+a).tmod n).toNat) (off []) 0 s=zt l (off [(slO ((b+a).tmod n+k).toNat ((b+a).tmod n).toNat,1)]) s:=by
     unfold zbe
     rw [List.take_zero,List.take_of_length_le (show s.length≤_ by omega)]
     generalize zt l _ s=y
     show zt y 0 []=y
     simp [zt]
   show (zbe l _ _ _ _ s).length=n∧zf (zbe l _ _ _ _ s) _ _=_
   rw [e]
   exact ⟨e2,e1⟩
theorem z6h {n:Nat} {b h a k:Int} (ca cb:Nat) (hb:0≤b) (hb':b<n) (hh:0≤h) (hh':h≤n) (ha:0≤a) (hk:0≤k) (hak:k≤h-a) (hp: ¬(b+a).tmod n+k≤n):
    PqOK ⟨[(slO n ((b+a).tmod n).toNat,1)],n-((b+a).tmod n).toNat,ca,[],(k-n+(b+a).tmod n).toNat,cb,false⟩ n b h a k:=by
  have hm0:0≤(b+a).tmod n:=Int.tmod_nonneg _ (by omega)
  have hm1:(b+a).tmod n<n:=Int.tmod_lt_of_pos _ (by omega)
  have hs:=zg9 n ((b+a).tmod n).toNat
  refine ⟨fun h=>Bool.noConfusion h,by dsimp only;omega,?_,by dsimp only;show 0+_≤n;omega,fun l hl=>?_,fun l s hl hsl=>?_⟩
  ·dsimp only
   show slO _ _+_≤n
   omega
  ·have:=zno (l:=l) (h:=h) hl hb hb' hh hh' ha hk hak hp
   unfold two
   exact this
  ·obtain ⟨e1,e2⟩:=z39 (l:=l) (s:=s) (h:=h) hl hb hb' hh hh' ha hk hak hp hsl
   unfold zbe
   exact ⟨e2,e1⟩
def zsn:Spec:=fun args hp K=>match args,hp with
  | [.ptr 0 0 0 [],.int a,.int k],[.mk t [.sl 1 0 0 [] n c,.int b,.int h],.mk u [.arr8 m l]]=>
    Pre (yj n c m l b h∧0≤a∧0≤k∧a≤h∧k≤h-a)
      (x9 fun q:Pq=>PqOK q n b h a k→yg q.one
        (K (.tup [.sl 1 0 0 q.oa q.na q.ca,.nilsl]) [.mk t [.sl 1 0 0 [] n c,.int b,.int h],.mk u [.arr8 m l]])
        (K (.tup [.sl 1 0 0 q.oa q.na q.ca,.sl 1 0 0 q.ob q.nb q.cb]) [.mk t [.sl 1 0 0 [] n c,.int b,.int h],.mk u [.arr8 m l]]))
  |_,_=>False
theorem zwv:zp prog 110 zsn:=z6v z1l (by
  intro args hp K h
  unfold zsn at h
  split at h
  ·rename_i a k t n c b hh u m l
   obtain ⟨hpre,h⟩:=zi h
   have h:=xj h
   unfold zkz
   refine zv hpre ?_
   obtain ⟨h0,ha,hk,h1,h2⟩:=hpre
   unfold yj at h0
   have hcn:c=n:=by omega
   subst hcn
   by_cases hd:(b+a).tmod c+k≤c
   ·refine zr (decide_eq_true hd) ?_
    have h:=h _ (z7d (n:=c) (((b+a).tmod c+k).toNat-((b+a).tmod c).toNat) (by omega) (by omega) (by omega) (by omega) ha hk h2 hd)
    exact (yc h).1 rfl
   ·refine zq (decide_eq_false hd) ?_
    have h:=h _ (z6h (n:=c) (c-((b+a).tmod c).toNat) (k-c+(b+a).tmod c).toNat (by omega) (by omega) (by omega) (by omega) ha hk h2 hd)
    exact (yc h).2 rfl
  ·exact h.elim)
end Go.Sym.Z

namespace Go.Sym.Z
open Go Go.Proofs.Tryz Go.Sym.Lp Go.Sym.Ring Go.Sym.Cha Go.Sym.Sha Go.Sym.Hk
set_option maxRecDepth 100000
attribute [local irreducible] zaf exF kyF ivF y0 xo yw inL ncF hdF lnz iA two zbe zf
def z87:List (Nat×List PStep):= []
theorem zzu {l:List UInt8} {a na b nb i:Nat} (ha:a+na≤l.length) (hb:b+nb≤l.length) (hi:i<na+nb):(two l a na b nb).getD i 0=if i<na then l.getD (a+i) 0 else l.getD (b+(i-na)) 0:=by
  unfold two
  have hla:(List.take na (List.drop a l)).length=na:=by rw [List.length_take,List.length_drop];omega
  split
  ·rw [List.getD_eq_getElem?_getD,List.getElem?_append_left (by omega),List.getElem?_take,if_pos (by omega),List.getElem?_drop,←List.getD_eq_getElem?_getD]
  ·rw [List.getD_eq_getElem?_getD,List.getElem?_append_right (by omega),hla,List.getElem?_take,if_pos (by omega),List.getElem?_drop,←List.getD_eq_getElem?_getD]
attribute [local semireducible] lnz
theorem zx5 {p:List UInt8} {j:Nat} (h:p.getD j 0=0):lnz p (j+1)=lnz p (j+1-1):=by simp only [lnz];rw [if_pos h];rfl
theorem z0k {p:List UInt8} {j:Nat} (h: ¬p.getD j 0=0):lnz p (j+1)=j+1:=by simp only [lnz];rw [if_neg h]
attribute [local irreducible] lnz
def z0t:Spec:=fun args hp K=>match args,hp with
  | [.int i,.ptr 0 0 0 [],.ptr 2 0 0 []],[.mk ta [.sl 1 0 0 oa na ca],.mk u [.arr8 m l],.mk tb [sb]]=>sbM 1 sb fun ob nb _=>Pre (0≤i∧i<((na+nb:Nat):Int)∧off oa+na≤l.length∧off ob+nb≤l.length∧na+nb≤1000000) (K (.u8 ((two l (off oa) na (off ob) nb).getD i.toNat 0)) [.mk ta [.sl 1 0 0 oa na ca],.mk u [.arr8 m l],.mk tb [sb]])
  |_,_=>False
set_option maxHeartbeats 4000000 in
theorem z6z:zp prog 112 z0t:=by
  refine zl x6 zg rfl func112 rfl call112 (D:=z87) ?_ ?_
  ·intro args hp K h
   unfold z0t at h
   split at h
   ·exact Nat.le_of_ble_eq_true rfl
   ·exact h.elim
  ·intro args hp K h
   unfold z0t at h
   split at h
   ·rename_i i ta oa na ca u m l tb sb
    obtain ⟨ob,nb,cb,hsb,h9⟩:=zn8 h
    clear h
    obtain ⟨⟨h0,h1,ha,hb,hN⟩,h⟩:=zi h9
    clear h9
    have hg:=zzu (i:=i.toNat) ha hb (by omega)
    by_cases hi:i<(na:Int)
    ·rw [if_pos (by omega)] at hg
     have hof:off (ya oa i.toNat ty5.sz)=off oa+i.toNat:=by rw [zw];show _+i.toNat*1=_;omega
     have hp:off (ya oa i.toNat ty5.sz)<l.length:=by omega
     rw [hg,←hof] at h
     rcases hsb with ⟨e1,e2,e3,e4⟩|e1
     case' inl=>subst e1 e2 e3 e4
     case' inr=>subst e1
     all_goals (
       refine za ?_
       refine yy h ?_
       exact zo)
    ·rw [if_neg (by omega)] at hg
     rcases hsb with ⟨e1,e2,e3,e4⟩|e1
     case inl=>omega
     subst e1
     have hz:(i-(na:Int)).toNat=i.toNat-na:=by omega
     have hof:off (ya ob (i-(na:Int)).toNat ty5.sz)=off ob+(i.toNat-na):=by rw [zw,hz];show _+(i.toNat-na)*1=_;omega
     have hp:off (ya ob (i-(na:Int)).toNat ty5.sz)<l.length:=by omega
     rw [hg,←hof] at h
     refine za ?_
     refine yy h ?_
     exact zo
   ·exact h.elim
end Go.Sym.Z

namespace Go.Sym.Z
open Go Go.Proofs.Tryz Go.Sym.Lp Go.Sym.Ring Go.Sym.Cha Go.Sym.Sha Go.Sym.Hk
set_option maxRecDepth 100000
attribute [local irreducible] zaf exF kyF ivF y0 xo yw inL ncF hdF lnz iA two zbe zf
def zqx:Spec:=fun args hp K=>match args,hp with
  | [.func 112 [.ptr 0 0 0 [],.ptr 2 0 0 []],.int z],[.mk ta [.sl 1 0 0 oa na ca],.mk u [.arr8 m l],.mk tb [sb]]=>sbM 1 sb fun ob nb _=>Pre (0≤z∧z≤((na+nb:Nat):Int)∧off oa+na≤l.length∧off ob+nb≤l.length∧na+nb≤1000000)
      (yg (decide (iA ((two l (off oa) na (off ob) nb).take z.toNat)= -1)) (K (.tup [.int (iK ((two l (off oa) na (off ob) nb).take z.toNat)),.int ((lnz ((two l (off oa) na (off ob) nb).take z.toNat) ((two l (off oa) na (off ob) nb).take z.toNat).length-1:Nat):Int),.int (-1)]) [.mk ta [.sl 1 0 0 oa na ca],.mk u [.arr8 m l],.mk tb [sb]]) (K (.tup [.int 0,.int 0,.int (iA ((two l (off oa) na (off ob) nb).take z.toNat))]) [.mk ta [.sl 1 0 0 oa na ca],.mk u [.arr8 m l],.mk tb [sb]]))
  |_,_=>False
set_option maxHeartbeats 8000000 in
theorem zz8:zp prog 96 zqx:=by
  refine zl x6 (ze z6z zg) rfl func96 rfl call96 (D:=yaz) ?_ ?_
  ·intro args hp K h
   unfold zqx at h
   split at h
   ·exact Nat.le_of_ble_eq_true rfl
   ·exact h.elim
  ·intro args hp K h
   unfold zqx at h
   split at h
   ·rename_i z ta oa na ca u m l tb sb
    obtain ⟨ob,nb,cb,hsb,h9⟩:=zn8 h
    clear h
    obtain ⟨⟨hz0,hz1,ha,hb,hN⟩,h⟩:=zi h9
    clear h9
    have hTl:=zv5 ha hb
    have hraw: ∀i,i<z.toNat→(two l (off oa) na (off ob) nb).getD i 0=((two l (off oa) na (off ob) nb).take z.toNat).getD i 0:=fun i hi=>by
      rw [List.getD_eq_getElem?_getD,List.getD_eq_getElem?_getD,List.getElem?_take,if_pos hi]
    obtain ⟨p,hp⟩: ∃p,p=(two l (off oa) na (off ob) nb).take z.toNat:=⟨_,rfl⟩
    have hpl:p.length=z.toNat:=by rw [hp,List.length_take,hTl];omega
    rw [←hp] at hraw h
    clear hp
    obtain ⟨ht,hf⟩:=yc h
    clear h
    have hl:z.toNat≤1000000:=by omega
    clear hTl
    rcases hsb with ⟨e1,e2,e3,e4⟩|e1
    ·subst e1 e2 e3 e4
     by_cases h1:16385<p.length
     ·have hv:iA p=22:=by unfold iA;rw [if_pos h1]
      have h:=hf (decide_eq_false (by rw [hv];decide))
      rw [hv] at h
      refine za ?_
      refine yy h ?_
      exact zo
     ·refine za ?_
      refine zx (Zs p) (fun q=>⟨[(0,.func 112 [.ptr 0 0 0 [],.ptr 2 0 0 []]),(1,.int (q.k:Nat))],[.mk ta [.sl 1 0 0 oa na ca],.mk u [.arr8 m l],.mk tb [.nilsl]]⟩) (fun q=>q.k) ⟨p.length,Nat.le_refl _,rfl⟩ [0,1,2] ?_ ?_
      ·repeat ((conv=>whnf);refine zc ?_)
       conv=>whnf
       exact zu (congrArg SV.int (show z=((p.length:Nat):Int) by omega))
      ·intro q
       have hqk:=q.hk
       have hqz:=q.hz
       by_cases h0:0<q.k
       ·have hpi:0≤((q.k:Nat):Int)-1∧((q.k:Nat):Int)-1<z:=⟨by omega,by omega⟩
        have hix:(((q.k:Nat):Int)-1).toNat=q.k-1:=by omega
        have hg:=hraw (((q.k:Nat):Int)-1).toNat (by omega)
        have hgN:=congrArg UInt8.toNat hg
        obtain ⟨j,hj⟩: ∃j,q.k=j+1:=⟨q.k-1,by omega⟩
        by_cases hb0:p.getD (q.k-1) 0=0
        ·have hd:decide (p.getD (((q.k:Nat):Int)-1).toNat 0=UInt8.ofNat 0)=true:=decide_eq_true (by rw [hix];exact hb0)
         have hnx:lnz p p.length=lnz p (q.k-1):=by
           rw [hqz,hj];rw [hj,Nat.add_sub_cancel] at hb0;exact zx5 hb0
         rw [←hg] at hd
         repeat ((conv=>whnf);first|refine zy ?_|refine zk ?_|refine zj ?_|refine zc ?_|refine zv (by first|exact hd|(rw [hd];rfl)|(exact ⟨by omega,by omega,ha,hb,hN⟩)) ?_|refine zr (by first|exact hd|(rw [hd];rfl)|(exact ⟨by omega,by omega,ha,hb,hN⟩)) ?_|refine zq (by first|exact hd|(rw [hd];rfl)|(exact ⟨by omega,by omega,ha,hb,hN⟩)) ?_)
         conv=>whnf
         refine ⟨⟨q.k-1,by omega,hnx⟩,[0,1,2],by show q.k-1<q.k;omega,?_⟩
         repeat ((conv=>whnf);refine zc ?_)
         conv=>whnf
         exact zu (congrArg SV.int (show ((q.k:Nat):Int)-1=((q.k-1:Nat):Int) by omega))
        ·have hd:decide (p.getD (((q.k:Nat):Int)-1).toNat 0=UInt8.ofNat 0)=false:=decide_eq_false (by rw [hix];exact hb0)
         have hlz:lnz p p.length=q.k:=by
           rw [hqz,hj];rw [hj,Nat.add_sub_cancel] at hb0;exact z0k hb0
         have hik:iK p=((p.getD (((q.k:Nat):Int)-1).toNat 0).toNat:Int):=by unfold iK;rw [hlz,hix]
         have hkm:((lnz p p.length-1:Nat):Int)=((q.k:Nat):Int)-1:=by rw [hlz];omega
         rw [←hg] at hd
         by_cases hgd:iK p=21∨iK p=22∨iK p=23
         ·have hv:iA p= -1:=by unfold iA;rw [if_neg h1,if_neg (by omega),if_pos hgd]
          have h:=ht (decide_eq_true hv)
          rw [hkm,hik,←hgN] at h
          rcases hgd with hgd|hgd|hgd
          all_goals (
            repeat ((conv=>whnf);first|refine zy ?_|refine zk ?_|refine zj ?_|refine zc ?_|refine zv (by first|exact hd|(rw [hd];rfl)|(exact ⟨by omega,by omega,ha,hb,hN⟩)) ?_|refine zr (by first|exact hd|(rw [hd];rfl)|(exact ⟨by omega,by omega,ha,hb,hN⟩)) ?_|refine zq (by first|exact hd|(rw [hd];rfl)|(exact ⟨by omega,by omega,ha,hb,hN⟩)) ?_)
            conv=>whnf
            refine yy h ?_
            exact zo)
         ·have hv:iA p=10:=by unfold iA;rw [if_neg h1,if_neg (by omega),if_neg hgd]
          have h:=hf (decide_eq_false (by rw [hv];decide))
          rw [hv] at h
          repeat ((conv=>whnf);first|refine zy ?_|refine zk ?_|refine zj ?_|refine zc ?_|refine zv (by first|exact hd|(rw [hd];rfl)|(exact ⟨by omega,by omega,ha,hb,hN⟩)) ?_|refine zr (by first|exact hd|(rw [hd];rfl)|(exact ⟨by omega,by omega,ha,hb,hN⟩)) ?_|refine zq (by first|exact hd|(rw [hd];rfl)|(exact ⟨by omega,by omega,ha,hb,hN⟩)) ?_)
          conv=>whnf
          refine yy h ?_
          exact zo
       ·have hlz:lnz p p.length=0:=by rw [hqz,show q.k=0 by omega];unfold lnz;rfl
        have hv:iA p=10:=by unfold iA;rw [if_neg h1,if_pos hlz]
        have h:=hf (decide_eq_false (by rw [hv];decide))
        rw [hv] at h
        refine za ?_
        refine yy h ?_
        exact zo
    ·subst e1
     by_cases h1:16385<p.length
     ·have hv:iA p=22:=by unfold iA;rw [if_pos h1]
      have h:=hf (decide_eq_false (by rw [hv];decide))
      rw [hv] at h
      refine za ?_
      refine yy h ?_
      exact zo
     ·refine za ?_
      refine zx (Zs p) (fun q=>⟨[(0,.func 112 [.ptr 0 0 0 [],.ptr 2 0 0 []]),(1,.int (q.k:Nat))],[.mk ta [.sl 1 0 0 oa na ca],.mk u [.arr8 m l],.mk tb [.sl 1 0 0 ob nb cb]]⟩) (fun q=>q.k) ⟨p.length,Nat.le_refl _,rfl⟩ [0,1,2] ?_ ?_
      ·repeat ((conv=>whnf);refine zc ?_)
       conv=>whnf
       exact zu (congrArg SV.int (show z=((p.length:Nat):Int) by omega))
      ·intro q
       have hqk:=q.hk
       have hqz:=q.hz
       by_cases h0:0<q.k
       ·have hpi:0≤((q.k:Nat):Int)-1∧((q.k:Nat):Int)-1<z:=⟨by omega,by omega⟩
        have hix:(((q.k:Nat):Int)-1).toNat=q.k-1:=by omega
        have hg:=hraw (((q.k:Nat):Int)-1).toNat (by omega)
        have hgN:=congrArg UInt8.toNat hg
        obtain ⟨j,hj⟩: ∃j,q.k=j+1:=⟨q.k-1,by omega⟩
        by_cases hb0:p.getD (q.k-1) 0=0
        ·have hd:decide (p.getD (((q.k:Nat):Int)-1).toNat 0=UInt8.ofNat 0)=true:=decide_eq_true (by rw [hix];exact hb0)
         have hnx:lnz p p.length=lnz p (q.k-1):=by
           rw [hqz,hj];rw [hj,Nat.add_sub_cancel] at hb0;exact zx5 hb0
         rw [←hg] at hd
         repeat ((conv=>whnf);first|refine zy ?_|refine zk ?_|refine zj ?_|refine zc ?_|refine zv (by first|exact hd|(rw [hd];rfl)|(exact ⟨by omega,by omega,ha,hb,hN⟩)) ?_|refine zr (by first|exact hd|(rw [hd];rfl)|(exact ⟨by omega,by omega,ha,hb,hN⟩)) ?_|refine zq (by first|exact hd|(rw [hd];rfl)|(exact ⟨by omega,by omega,ha,hb,hN⟩)) ?_)
         conv=>whnf
         refine ⟨⟨q.k-1,by omega,hnx⟩,[0,1,2],by show q.k-1<q.k;omega,?_⟩
         repeat ((conv=>whnf);refine zc ?_)
         conv=>whnf
         exact zu (congrArg SV.int (show ((q.k:Nat):Int)-1=((q.k-1:Nat):Int) by omega))
        ·have hd:decide (p.getD (((q.k:Nat):Int)-1).toNat 0=UInt8.ofNat 0)=false:=decide_eq_false (by rw [hix];exact hb0)
         have hlz:lnz p p.length=q.k:=by
           rw [hqz,hj];rw [hj,Nat.add_sub_cancel] at hb0;exact z0k hb0
         have hik:iK p=((p.getD (((q.k:Nat):Int)-1).toNat 0).toNat:Int):=by unfold iK;rw [hlz,hix]
         have hkm:((lnz p p.length-1:Nat):Int)=((q.k:Nat):Int)-1:=by rw [hlz];omega
         rw [←hg] at hd
         by_cases hgd:iK p=21∨iK p=22∨iK p=23
         ·have hv:iA p= -1:=by unfold iA;rw [if_neg h1,if_neg (by omega),if_pos hgd]
          have h:=ht (decide_eq_true hv)
          rw [hkm,hik,←hgN] at h
          rcases hgd with hgd|hgd|hgd
          all_goals (
            repeat ((conv=>whnf);first|refine zy ?_|refine zk ?_|refine zj ?_|refine zc ?_|refine zv (by first|exact hd|(rw [hd];rfl)|(exact ⟨by omega,by omega,ha,hb,hN⟩)) ?_|refine zr (by first|exact hd|(rw [hd];rfl)|(exact ⟨by omega,by omega,ha,hb,hN⟩)) ?_|refine zq (by first|exact hd|(rw [hd];rfl)|(exact ⟨by omega,by omega,ha,hb,hN⟩)) ?_)
            conv=>whnf
            refine yy h ?_
            exact zo)
         ·have hv:iA p=10:=by unfold iA;rw [if_neg h1,if_neg (by omega),if_neg hgd]
          have h:=hf (decide_eq_false (by rw [hv];decide))
          rw [hv] at h
          repeat ((conv=>whnf);first|refine zy ?_|refine zk ?_|refine zj ?_|refine zc ?_|refine zv (by first|exact hd|(rw [hd];rfl)|(exact ⟨by omega,by omega,ha,hb,hN⟩)) ?_|refine zr (by first|exact hd|(rw [hd];rfl)|(exact ⟨by omega,by omega,ha,hb,hN⟩)) ?_|refine zq (by first|exact hd|(rw [hd];rfl)|(exact ⟨by omega,by omega,ha,hb,hN⟩)) ?_)
          conv=>whnf
          refine yy h ?_
          exact zo
       ·have hlz:lnz p p.length=0:=by rw [hqz,show q.k=0 by omega];unfold lnz;rfl
        have hv:iA p=10:=by unfold iA;rw [if_neg h1,if_pos hlz]
        have h:=hf (decide_eq_false (by rw [hv];decide))
        rw [hv] at h
        refine za ?_
        refine yy h ?_
        exact zo
   ·exact h.elim
end Go.Sym.Z

namespace Go.Sym.Z
open Go Go.Proofs.Tryz Go.Sym.Lp Go.Sym.Ring Go.Sym.Cha Go.Sym.Sha Go.Sym.Hk
set_option maxRecDepth 100000
attribute [local irreducible] zaf exF kyF ivF y0 xo yw inL ncF hdF lnz iA two zbe zf iK
def yav:List (Nat×List PStep):= [(3,[⟨0,[]⟩,⟨1,[]⟩,⟨2,[]⟩,⟨3,[]⟩,⟨4,[0,1,2,3]⟩,⟨5,[0,1,2,3,4]⟩,⟨6,[0,1,2,3,4,5]⟩,⟨7,[]⟩,⟨8,[]⟩,⟨9,[]⟩,⟨10,[9]⟩,⟨11,[10]⟩,⟨12,[]⟩])]
def inT (k:Kq) (r:List UInt8):List UInt8:=yw k.w k.key (ncF k.iv k.m) (r.take (r.length-16))
def inO (k:Kq) (hd r:List UInt8):Prop:=16≤r.length∧xo k.w k.key (ncF k.iv k.m) hd (r.take (r.length-16))=r.drop (r.length-16)
instance (k:Kq) (hd r:List UInt8):Decidable (inO k hd r):=by unfold inO;exact inferInstance
def zuu (R:Option Kq) (kind:Int) (hd r:List UInt8) (ok okN:Int→List UInt8→Prop) (no bad:Int→Prop):Prop:=match R with
  |none=>ok kind r
  |some k=>yg (decide (kind=20)) (ok kind r) (yg (decide (inO k hd r)) (yg (decide (iA (inT k r)= -1)) (okN (iK (inT k r)) ((inT k r).take (lnz (inT k r) (inT k r).length-1))) (bad (iA (inT k r)))) (no 20))
theorem zlu {n c m:Nat} {l l':List UInt8} {b h:Int} (h0:yj n c m l b h) (hl:l'.length=n):yj n c m l' b h:=by
  unfold yj at h0 ⊢;omega
theorem z09 {ct s X:List UInt8} {a k:Nat} (ha:a≤ct.length) (hs:s.length=k):((ct.take a++s++X).drop a).take k=s:=by
  rw [List.append_assoc,List.drop_left' (by rw [List.length_take];omega),List.take_left' hs]
theorem z1p {ct s X:List UInt8} {a k:Nat} (ha:a≤ct.length) (hs:s.length=k):(ct.take a++s++X).drop (a+k)=X:=List.drop_left' (by rw [List.length_append,List.length_take];omega)
theorem zxl {ct u v X:List UInt8} {a k:Nat} (ha:a≤ct.length) (hk:k≤u.length):((ct.take a++(u++v)++X).drop a).take k=u.take k:=by
  rw [List.append_assoc,List.drop_left' (by rw [List.length_take];omega),List.append_assoc,List.take_append_of_le_length hk]
def zta:Spec:=fun args hp K=>match args with
  | [.ptr 0 0 0 [],.str hd,.int kind,.int z]=>stM hp fun p W R f n b h l=>Pre (yj n n n l b h∧0≤z∧5+z≤h∧z≤16640∧wOK R∧hd.length≤100)
      (zuu R kind hd (((zf l b.toNat h.toNat).drop 5).take z.toNat)
        (fun k d=>K (.tup [.agg [.int k,.str d],.int (-1)]) (stH p W R f n b h l))
        (fun k d=>x9 fun l':List UInt8=>(l'.length=n∧(zf l' b.toNat h.toNat).drop (5+z.toNat)=(zf l b.toNat h.toNat).drop (5+z.toNat))→K (.tup [.agg [.int k,.str d],.int (-1)]) (stH p W (upK R) f n b h l'))
        (fun a=>K (.tup [.agg [.int 0,.str []],.int a]) (stH p W R f n b h l))
        (fun a=>x9 fun l':List UInt8=>l'.length=n→K (.tup [.agg [.int 0,.str []],.int a]) (stH p W (upK R) f n b h l')))
  |_=>False
set_option maxHeartbeats 16000000 in
theorem z3b:zp prog 83 zta:=by
  refine zl zzd (ze zwv (ze zw1 (ze zz8 (ze zvy zg)))) rfl func83 rfl call83 (D:=yav) ?_ ?_
  ·intro args hp K h
   unfold zta at h
   split at h
   ·exact Nat.le_of_ble_eq_true rfl
   ·exact h.elim
  ·intro args hp K h
   unfold zta at h
   split at h
   ·rename_i hd kind z
    obtain ⟨t0,t1,t2,t3,t4,p,W,R,f,n,b,hh,l,ehp,h9⟩:=zdx h
    clear h
    subst ehp
    obtain ⟨⟨h0,hz0,hz1,hz2,hok,hdl⟩,h⟩:=zi h9
    clear h9
    have h0':=h0
    unfold yj at h0'
    have hln:l.length=n:=by omega
    have hcl:(zf l b.toNat hh.toNat).length=hh.toNat:=xt (by omega) (by omega)
    obtain ⟨r,hr⟩: ∃r,r=((zf l b.toNat hh.toNat).drop 5).take z.toNat:=⟨_,rfl⟩
    have hrl:r.length=z.toNat:=by rw [hr,List.length_take,List.length_drop,hcl];omega
    have hpp:yj n n n l b hh∧(0:Int)≤5∧0≤z∧5≤hh∧z≤hh-5:=⟨h0,by decide,hz0,by omega,by omega⟩
    have hpk:decide ((0:Int)≤5∧0≤z∧5≤hh∧z≤hh-5)=true:=decide_eq_true ⟨by decide,hz0,by omega,by omega⟩
    have hr':List.take z.toNat (List.drop (Int.toNat 5) (zf l b.toNat hh.toNat))=r:=hr.symm
    rw [←hr] at h
    rcases R with _|⟨bw,bk,bi,bm⟩
    ·rcases W with _|⟨aw,ak,ai,am⟩
     all_goals (
       dsimp only [zav]
       refine za ?_
       refine yf fun q hq=>?_
       obtain ⟨oa,na,ca,ob,nb,cb,one⟩:=q
       cases one
       all_goals (
         repeat ((conv=>whnf);first|refine zy ?_|refine zk ?_|refine zj ?_|refine zc ?_|refine zv (by first|exact hpk|(rw [hpk];rfl)) ?_|refine zr (by first|exact hpk|(rw [hpk];rfl)) ?_|refine zq (by first|exact hpk|(rw [hpk];rfl)) ?_)
         conv=>whnf
         rw [hr']
         refine yy h ?_
         exact zo))
    ·obtain ⟨ht,hf⟩:=yc h
     by_cases hk:kind=20
     ·have h:=ht (decide_eq_true hk)
      have d20:=decide_eq_true hk
      rcases W with _|⟨aw,ak,ai,am⟩
      all_goals (
        dsimp only [zav]
        refine za ?_
        refine yf fun q hq=>?_
        obtain ⟨oa,na,ca,ob,nb,cb,one⟩:=q
        cases one
        all_goals (
          repeat ((conv=>whnf);first|refine zy ?_|refine zk ?_|refine zj ?_|refine zc ?_|refine zv (by first|exact hpk|(rw [hpk];rfl)|(rw [d20];rfl)) ?_|refine zr (by first|exact hpk|(rw [hpk];rfl)|(rw [d20];rfl)) ?_|refine zq (by first|exact hpk|(rw [hpk];rfl)|(rw [d20];rfl)) ?_)
          conv=>whnf
          rw [hr']
          refine yy h ?_
          exact zo))
     ·have h:=hf (decide_eq_false hk)
      have d20:=decide_eq_false hk
      clear ht hf
      obtain ⟨ht,hf⟩:=yc h
      clear h
      have hok:zrs bw bk bi bm:=hok
      have hdA:(yw bw bk (ncF bi bm) (List.take (r.length-16) r)).length=r.length-16:=by rw [xw,List.length_take];omega
      rcases W with _|⟨aw,ak,ai,am⟩
      all_goals (
        dsimp only [zav]
        refine za ?_
        refine yf fun q hq=>?_
        have hna:=hq.ha
        have hnb:=hq.hb
        have hN:=hq.hn
        have hq2:=hq.h2
        have hq3:=hq.h3
        have hone:=hq.h1
        clear hq
        conv=>whnf
        cases ho:q.one
        case' true=>
          obtain ⟨e1,e2⟩:=hone ho
          rw [e2] at hN
          rw [e1,e2] at hnb hq2 hq3
        all_goals (
          have h2r:=(hq2 l hln).trans hr'
          rw [←hrl] at hN hq2
          have hpo:zrs bw bk bi bm∧hd.length≤100:=⟨hok,hdl⟩
          by_cases hop:inO ⟨bw,bk,bi,bm⟩ hd r
          ·have h16:=hop.1
           have e:decide (16≤r.length∧xo bw bk (ncF bi bm) hd (r.take (r.length-16))=r.drop (r.length-16))=true:=decide_eq_true hop
           have h:=ht (decide_eq_true hop)
           obtain ⟨ht,hf⟩:=yc h
           have hsl:(yw bw bk (ncF bi bm) (List.take (r.length-16) r)++List.drop (r.length-16) r).length=r.length:=by rw [List.length_append,hdA,List.length_drop];omega
           obtain ⟨hl1,hc1⟩:=hq3 l _ hln (hsl.trans hrl)
           have hp2:=hq2 _ hl1
           rw [hc1] at hp2
           have hp3:=hp2.trans (z09 (by rw [hcl];show 5≤_;omega) hsl)
           have htl:List.take (((r.length:Nat):Int)-16).toNat (yw bw bk (ncF bi bm) (List.take (r.length-16) r)++List.drop (r.length-16) r)=yw bw bk (ncF bi bm) (List.take (r.length-16) r):=List.take_left' (by rw [hdA];omega)
           repeat ((conv=>whnf);first|refine zy ?_|refine zk ?_|refine zj ?_|refine zc ?_|refine zv (by first|(rw [d20];rfl)|exact d20|(refine ⟨hok,hdl,?_,?_,?_⟩<;>omega)|(rw [h2r,hN];exact e)) ?_|refine zr (by first|(rw [d20];rfl)|exact d20|(refine ⟨hok,hdl,?_,?_,?_⟩<;>omega)|(rw [h2r,hN];exact e)) ?_|refine zq (by first|(rw [d20];rfl)|exact d20|(refine ⟨hok,hdl,?_,?_,?_⟩<;>omega)|(rw [h2r,hN];exact e)) ?_)
           conv=>whnf
           rw [h2r,hN]
           by_cases hi:iA (inT ⟨bw,bk,bi,bm⟩ r)= -1
           ·have h:=ht (decide_eq_true hi)
            have e2:decide (iA (yw bw bk (ncF bi bm) (List.take (r.length-16) r))= -1)=true:=decide_eq_true hi
            repeat ((conv=>whnf);first|refine zy ?_|refine zk ?_|refine zj ?_|refine zc ?_|refine zv (by first|(refine ⟨?_,?_,?_,?_,?_⟩<;>omega)|(rw [hp3,htl];exact e2)) ?_|refine zr (by first|(refine ⟨?_,?_,?_,?_,?_⟩<;>omega)|(rw [hp3,htl];exact e2)) ?_|refine zq (by first|(refine ⟨?_,?_,?_,?_,?_⟩<;>omega)|(rw [hp3,htl];exact e2)) ?_)
            conv=>whnf
            rw [hp3,htl]
            have hlz:=z0j (yw bw bk (ncF bi bm) (List.take (r.length-16) r)) (yw bw bk (ncF bi bm) (List.take (r.length-16) r)).length
            have hrg:yj n n n _ b hh:=zlu h0 hl1
            have hpk2:decide ((0:Int)≤5∧0≤((lnz (yw bw bk (ncF bi bm) (List.take (r.length-16) r)) (yw bw bk (ncF bi bm) (List.take (r.length-16) r)).length-1:Nat):Int)∧5≤hh∧((lnz (yw bw bk (ncF bi bm) (List.take (r.length-16) r)) (yw bw bk (ncF bi bm) (List.take (r.length-16) r)).length-1:Nat):Int)≤hh-5)=true:=decide_eq_true ⟨by decide,by omega,by omega,by omega⟩
            repeat ((conv=>whnf);first|refine zy ?_|refine zk ?_|refine zj ?_|refine zc ?_|refine zv (by first|exact hpk2|(rw [hpk2];rfl)) ?_|refine zr (by first|exact hpk2|(rw [hpk2];rfl)) ?_|refine zq (by first|exact hpk2|(rw [hpk2];rfl)) ?_)
            conv=>whnf
            have htail:List.drop (5+z.toNat) (zf _ b.toNat hh.toNat)=List.drop (5+z.toNat) (zf l b.toNat hh.toNat):=(congrArg (List.drop (5+z.toNat)) hc1).trans (z1p (by rw [hcl];show 5≤_;omega) (hsl.trans hrl))
            have hdat:=zxl (ct:=zf l b.toNat hh.toNat) (X:=List.drop (Int.toNat 5+z.toNat) (zf l b.toNat hh.toNat)) (a:=Int.toNat 5) (u:=yw bw bk (ncF bi bm) (List.take (r.length-16) r)) (v:=List.drop (r.length-16) r) (k:=(((lnz (yw bw bk (ncF bi bm) (List.take (r.length-16) r)) (yw bw bk (ncF bi bm) (List.take (r.length-16) r)).length-1:Nat):Int)).toNat) (by rw [hcl];show 5≤_;omega) (by omega)
            rw [hc1,hdat]
            refine yy (xj h _ ⟨hl1,htail⟩) ?_
            exact zo
           ·have h:=hf (decide_eq_false hi)
            have e2:decide (iA (yw bw bk (ncF bi bm) (List.take (r.length-16) r))= -1)=false:=decide_eq_false hi
            repeat ((conv=>whnf);first|refine zy ?_|refine zk ?_|refine zj ?_|refine zc ?_|refine zv (by first|(refine ⟨?_,?_,?_,?_,?_⟩<;>omega)|(rw [hp3,htl];exact e2)|(rw [hp3,htl,e2];rfl)) ?_|refine zr (by first|(refine ⟨?_,?_,?_,?_,?_⟩<;>omega)|(rw [hp3,htl];exact e2)|(rw [hp3,htl,e2];rfl)) ?_|refine zq (by first|(refine ⟨?_,?_,?_,?_,?_⟩<;>omega)|(rw [hp3,htl];exact e2)|(rw [hp3,htl,e2];rfl)) ?_)
            conv=>whnf
            rw [hp3,htl]
            refine yy (xj h _ hl1) ?_
            exact zo
          ·have e:decide (16≤r.length∧xo bw bk (ncF bi bm) hd (r.take (r.length-16))=r.drop (r.length-16))=false:=decide_eq_false hop
           have h:=hf (decide_eq_false hop)
           repeat ((conv=>whnf);first|refine zy ?_|refine zk ?_|refine zj ?_|refine zc ?_|refine zv (by first|(rw [d20];rfl)|exact d20|(refine ⟨hok,hdl,?_,?_,?_⟩<;>omega)|(rw [h2r,hN];exact e)) ?_|refine zr (by first|(rw [d20];rfl)|exact d20|(refine ⟨hok,hdl,?_,?_,?_⟩<;>omega)|(rw [h2r,hN];exact e)) ?_|refine zq (by first|(rw [d20];rfl)|exact d20|(refine ⟨hok,hdl,?_,?_,?_⟩<;>omega)|(rw [h2r,hN];exact e)) ?_)
           conv=>whnf
           refine yy h ?_
           exact zo))
   ·exact h.elim
end Go.Sym.Z
