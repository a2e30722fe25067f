/-
  Contracts of functions of the program, each said of symbolic values, and plain laws; no condition beyond each statement's own.
-/
import Derived.Test.YtmmpgjcpielefaaGreatGLStreamTwins32
import Derived.Test.YtmmpgjcpielefaaGreatGLStreamTwins31
set_option linter.unusedSimpArgs false
set_option linter.unusedVariables false
namespace Go.Sym.Z
open Go Go.Proofs.Tryz Go.Sym.Lp Go.Sym.Ring Go.Sym.Cha Go.Sym.Sha Go.Sym.Hk
set_option maxRecDepth 100000
attribute [local irreducible] zab exF kyF ivF yx xe yi inL ncF hdF
def yck:List (Nat×List PStep):= []
def zb7 (p:Int) (W:Option Kq) (kind:Int) (s:List UInt8):List UInt8:=match W with
  |none=>hdF kind s.length++s
  |some k=>zas p k.w k.key k.iv k.m kind s
def upK:Option Kq→Option Kq
  |none=>none
  |some k=>some ⟨k.w,k.key,k.iv,k.m+1⟩
def wOK:Option Kq→Prop
  |none=>True
  |some k=>zcu k.w k.key k.iv k.m
def zpp:Spec:=fun args hp K=>match args with
  | [.ptr 0 0 0 [],.int kind,.str s]=>stM hp fun p W R f n b h l=>Pre (wOK W∧0≤p∧p≤16384∧s.length≤140737488351232) (zv (decide (yu kind∧s.length≤16384)) (K (.tup [.str (zb7 p W kind s),.int 0]) (stH p (upK W) R f n b h l)) (K (.tup [.str [],.int 2100]) (stH p W R f n b h l)))
  |_=>False
def zph:Spec:=fun args hp K=>match args with
  | [.ptr 0 0 0 [],.int kind,.str s]=>stM hp fun p W R f n b h l=>Pre (wOK W∧0≤p∧p≤16384∧s.length≤140737488351232) (zv (decide (yu kind∧s.length≤16384)) (K (.tup [.str (zb7 p W kind s),.int 0]) (stH p (upK W) R f n b h l)) (K (.tup [.str [],.int 2300]) (stH p W R f n b h l)))
  |_=>False
set_option maxHeartbeats 8000000 in
theorem z3k:zp prog 45 zpp:=by
  refine zn x7 (zd zo0 (zd zvb (zd z64 (zd zks (zd znl zl))))) rfl func45 rfl call45 (D:=ybj) ?_ ?_
  ·intro args hp K h
   unfold zpp at h
   split at h
   ·exact Nat.le_of_ble_eq_true rfl
   ·exact h.elim
  ·intro args hp K h
   unfold zpp at h
   split at h
   ·rename_i kind s
    obtain ⟨t0,t1,t2,t3,t4,p,W,R,f,n,b,hh,l,ehp,h9⟩:=zdu h
    clear h
    subst ehp
    have h:=h9
    clear h9
    obtain ⟨⟨hok,hp0,hp1,hs⟩,h⟩:=zm h
    obtain ⟨ht,hf⟩:=zt h
    by_cases hk:yu kind
    ·have dk:=decide_eq_true hk
     by_cases hl:s.length≤16384
     ·have h:=ht (decide_eq_true ⟨hk,hl⟩)
      rcases W with _|⟨aw,akey,aiv,am⟩
      ·have hhl:=zek kind s.length
       rcases R with _|⟨bw,bk,bi,bm⟩
       all_goals (
         dsimp only [zaq]
         repeat ((conv=>whnf);first|refine zo ?_|refine zf ?_|refine zg ?_|refine zb ?_|refine zr (by first|exact dk|(rw [dk];rfl)) ?_|refine zi (by first|exact dk|(rw [dk];rfl)) ?_|refine zj (by first|exact dk|(rw [dk];rfl)) ?_)
         conv=>whnf
         refine y0 h ?_
         exact zu)
      ·have hok:zcu aw akey aiv am:=hok
       have hky:=zfs hok
       obtain ⟨hw,hkl,hiv,hm0,hm1⟩:=hok
       have hnl:=zh4 aiv am
       have hin:0≤(s.length:Int)∧(s.length:Int)≤16384∧0≤p∧p≤16384:=⟨by omega,by omega,hp0,hp1⟩
       obtain ⟨hi1,hi2⟩:=zp8 (p:=p) (n:=(s.length:Int)) (by omega) (by omega) hp0
       obtain ⟨L,hL⟩: ∃L:Nat,inL p (s.length:Int)=(L:Int):=⟨_,(Int.toNat_of_nonneg (by omega)).symm⟩
       have hLn:(inL p (s.length:Int)).toNat=L:=by rw [hL];exact Int.toNat_natCast _
       dsimp only [zb7,upK] at h
       unfold zas zf3 at h
       have hcast:(L:Int)+16=((L+16:Nat):Int):=by omega
       rw [hLn,hL,hcast] at h
       have hLt:((L:Int)+16).toNat=L+16:=by omega
       have hix:off (yb [] ((s.length:Int)).toNat ty5.sz)=s.length:=by rw [zy];show 0+((s.length:Int)).toNat*1=_;omega
       have hsl1:s.length+1≤L:=by omega
       have hB:=zmm (L:=L) (s:=s) hsl1 (UInt8.ofInt kind) hix
       obtain ⟨BB,hBB⟩: ∃BB,BB=s++UInt8.ofInt kind ::List.replicate (L+16-s.length-1) 0:=⟨_,rfl⟩
       have hBl:BB.length=L+16:=by rw [hBB,List.length_append,List.length_cons,List.length_replicate];omega
       have hBt:BB.take (L+16-16)=s++UInt8.ofInt kind ::List.replicate (L-s.length-1) 0:=by rw [hBB,Nat.add_sub_cancel];exact zhn hsl1 _
       rw [←hBB] at hB
       have hps:off (yb [] ((s.length:Int)).toNat ty5.sz)<(zw (List.replicate (L+16) 0) (off []) (List.take (min s.length (L+16)) s)).length:=by
         have:=congrArg List.length hB
         rw [List.length_set] at this
         rw [hix];omega
       have hhl:=zek 23 ((L+16:Nat):Int)
       have hAl:(yx aw akey (ncF aiv am) (hdF 23 ((L+16:Nat):Int)) (BB.take (L+16-16))).length=L+16:=by
         rw [zb8,List.length_append,za2,xg,List.length_take,hBl];omega
       have hpn:L+16=BB.length∧16≤L+16∧zj8 aw akey (ncF aiv am) (hdF 23 ((L+16:Nat):Int)) (((L+16:Nat):Int)+0-16):=⟨hBl.symm,by omega,hky,by rw [hnl,hiv],by omega,by omega⟩
       have hpo:off []+(L+16)≤(yx aw akey (ncF aiv am) (hdF 23 ((L+16:Nat):Int)) (BB.take (L+16-16))).length:=by rw [hAl];show 0+_≤_;omega
       have hte:List.take (L+16) (List.drop (off []) (yx aw akey (ncF aiv am) (hdF 23 ((L+16:Nat):Int)) (BB.take (L+16-16))))=yx aw akey (ncF aiv am) (hdF 23 ((L+16:Nat):Int)) (BB.take (L+16-16)):=List.take_of_length_le (Nat.le_of_eq hAl)
       rw [←hBt] at h
       rcases R with _|⟨bw,bk,bi,bm⟩
       all_goals (
         dsimp only [zaq]
         repeat ((conv=>whnf);first|refine zo ?_|refine zf ?_|refine zg ?_|refine zb ?_|refine zr (by first|exact dk|(rw [dk];rfl)) ?_|refine zi (by first|exact dk|(rw [dk];rfl)) ?_|refine zj (by first|exact dk|(rw [dk];rfl)) ?_)
         conv=>whnf
         rw [hL,hLt]
         refine za ?_
         rw [hB]
         refine za ?_
         rw [hte]
         refine za ?_
         refine y0 h ?_
         exact zu)
     ·have h:=hf (decide_eq_false fun hh=>hl hh.2)
      rcases W with _|⟨aw,akey,aiv,am⟩<;>rcases R with _|⟨bw,bk,bi,bm⟩
      all_goals (
        dsimp only [zaq]
        repeat ((conv=>whnf);first|refine zo ?_|refine zf ?_|refine zg ?_|refine zb ?_|refine zr (by first|exact dk|(rw [dk];rfl)) ?_|refine zi (by first|exact dk|(rw [dk];rfl)) ?_|refine zj (by first|exact dk|(rw [dk];rfl)) ?_)
        conv=>whnf
        refine y0 h ?_
        exact zu)
    ·have dk:=decide_eq_false hk
     have h:=hf (decide_eq_false fun hh=>hk hh.1)
     rcases W with _|⟨aw,akey,aiv,am⟩<;>rcases R with _|⟨bw,bk,bi,bm⟩
     all_goals (
       dsimp only [zaq]
       repeat ((conv=>whnf);first|refine zo ?_|refine zf ?_|refine zg ?_|refine zb ?_|refine zr (by first|exact dk|(rw [dk];rfl)) ?_|refine zi (by first|exact dk|(rw [dk];rfl)) ?_|refine zj (by first|exact dk|(rw [dk];rfl)) ?_)
       conv=>whnf
       refine y0 h ?_
       exact zu)
   ·exact h.elim
attribute [local irreducible] zas zb7
set_option maxHeartbeats 8000000 in
theorem zu5:zp prog 32 zph:=by
  refine zn x7 (zd z3k (zd zt5 zl)) rfl func32 rfl call32 (D:=yck) ?_ ?_
  ·intro args hp K h
   unfold zph at h
   split at h
   ·exact Nat.le_of_ble_eq_true rfl
   ·exact h.elim
  ·intro args hp K h
   unfold zph at h
   split at h
   ·rename_i kind s
    obtain ⟨t0,t1,t2,t3,t4,p,W,R,f,n,b,hh,l,ehp,h9⟩:=zdu h
    clear h
    subst ehp
    have h:=h9
    clear h9
    obtain ⟨hpre,h⟩:=zm h
    obtain ⟨ht,hf⟩:=zt h
    generalize e:decide (yu kind∧s.length≤16384)=c at ht hf
    cases c
    ·have h:=hf rfl
     rcases W with _|⟨aw,akey,aiv,am⟩<;>rcases R with _|⟨bw,bk,bi,bm⟩
     all_goals (
       dsimp only [zaq]
       repeat ((conv=>whnf);first|refine zo ?_|refine zf ?_|refine zg ?_|refine zb ?_|refine zr (by first|exact e|(rw [e];rfl)) ?_|refine zi (by first|exact e|(rw [e];rfl)) ?_|refine zj (by first|exact e|(rw [e];rfl)) ?_)
       conv=>whnf
       refine y0 h ?_
       exact zu)
    ·have h:=ht rfl
     rcases W with _|⟨aw,akey,aiv,am⟩<;>rcases R with _|⟨bw,bk,bi,bm⟩
     all_goals (
       dsimp only [zaq]
       repeat ((conv=>whnf);first|refine zo ?_|refine zf ?_|refine zg ?_|refine zb ?_|refine zr (by first|exact e|(rw [e];rfl)) ?_|refine zi (by first|exact e|(rw [e];rfl)) ?_|refine zj (by first|exact e|(rw [e];rfl)) ?_)
       conv=>whnf
       refine y0 h ?_
       exact zu)
   ·exact h.elim
end Go.Sym.Z

namespace Go.Sym.Ring
open Go Go.Sym Go.Sym.Lp
set_option maxRecDepth 100000
theorem yc5 {b a i n:Nat} (hb:b<n) (ha:a≤n) (hi:i<n):((if b+i<n then b+i else b+i-n)+n-(b+a)%n)%n=if a≤i then i-a else i+n-a:=by
  rw [place hb ha]
  have hm: ∀x r:Nat,r<n→(x=r∨x=r+n)→x%n=r:=by
    intro x r hr h
    rcases h with h|h
    ·subst h;exact Nat.mod_eq_of_lt hr
    ·subst h;rw [Nat.add_mod_right,Nat.mod_eq_of_lt hr]
  apply hm
  ·split<;>omega
  ·(repeat' split)<;>omega
theorem zu8 {l l' s:List UInt8} {b h a:Nat} (hb:b<l.length) (ha:a+s.length≤h) (hh:h≤l.length) (hl:l'.length=l.length)
    (hw: ∀i,i<l.length→l'[i]?=if (i+l.length-(b+a)%l.length)%l.length<s.length then s[(i+l.length-(b+a)%l.length)%l.length]? else l[i]?):
    zk l' b h=(zk l b h).take a++s++(zk l b h).drop (a+s.length):=by
  have hcl:(zk l b h).length=h:=xt (by omega) hh
  have htl:((zk l b h).take a).length=a:=by rw [List.length_take];omega
  apply List.ext_getElem?
  intro i
  by_cases hi:i<h
  ·have hq:(zk l' b h)[i]?=l'[if b+i<l.length then b+i else b+i-l.length]?:=by
     rw [zae (by omega) hi (by omega),hl];split<;>rfl
   have hq2:(zk l b h)[i]?=l[if b+i<l.length then b+i else b+i-l.length]?:=by
     rw [zae hb hi hh];split<;>rfl
   rw [hq,hw _ (by split<;>omega),yc5 hb (by omega) (by omega),←hq2]
   by_cases h1:i<a
   ·rw [if_neg (show ¬a≤i by omega),if_neg (by omega),List.append_assoc,List.getElem?_append_left (by omega),List.getElem?_take,if_pos h1]
   ·rw [if_pos (show a≤i by omega)]
    by_cases h2:i<a+s.length
    ·rw [if_pos (by omega),List.getElem?_append_left (by rw [List.length_append];omega),List.getElem?_append_right (by omega),htl]
    ·rw [if_neg (by omega),List.getElem?_append_right (by rw [List.length_append];omega),List.getElem?_drop,List.length_append,htl]
     congr 1;omega
  ·rw [zcm (by omega) (by omega) (by omega),List.getElem?_eq_none (by rw [List.length_append,List.length_append,htl,List.length_drop,hcl];omega)]
theorem z5l {l s:List UInt8} {n p:Nat} (hl:l.length=n) (hf:p+s.length≤n) (i:Nat) (hi:i<n):
    (zw l p s)[i]?=if (i+n-p)%n<s.length then s[(i+n-p)%n]? else l[i]?:=by
  rw [zbr (by omega)]
  by_cases hpi:p≤i
  ·have:(i+n-p)%n=i-p:=by rw [Nat.mod_eq_sub_mod (by omega),Nat.mod_eq_of_lt (by omega)];omega
   rw [this]
   by_cases h3:i<p+s.length
   ·rw [if_pos ⟨hpi,h3⟩,if_pos (by omega)]
   ·rw [if_neg (by omega),if_neg (by omega)]
  ·by_cases hp:p=n
   ·have h0:s= []:=List.length_eq_zero_iff.1 (by omega)
    subst h0
    rw [if_neg (by simp),if_neg (by simp)]
   ·have:(i+n-p)%n=i+n-p:=Nat.mod_eq_of_lt (by omega)
    rw [this,if_neg (by omega),if_neg (by omega)]
theorem z3w {l s:List UInt8} {n p:Nat} (hl:l.length=n) (hp:p<n) (hf:n<p+s.length) (hs:s.length≤n) (i:Nat) (hi:i<n):
    (zw (zw l p (s.take (n-p))) 0 ((s.drop (n-p)).take (s.length-(n-p))))[i]?=if (i+n-p)%n<s.length then s[(i+n-p)%n]? else l[i]?:=by
  have f1:(s.take (n-p)).length=n-p:=by rw [List.length_take];omega
  have f2:((s.drop (n-p)).take (s.length-(n-p))).length=s.length-(n-p):=by rw [List.length_take,List.length_drop];omega
  have g1:p+(s.take (n-p)).length≤l.length:=by omega
  rw [zbr (by rw [xd g1];omega),zbr g1,f1,f2]
  by_cases hpi:p≤i
  ·have:(i+n-p)%n=i-p:=by rw [Nat.mod_eq_sub_mod (by omega),Nat.mod_eq_of_lt (by omega)];omega
   rw [this,if_neg (by omega),if_pos (by omega),if_pos (by omega),List.getElem?_take,if_pos (by omega)]
  ·have:(i+n-p)%n=i+n-p:=Nat.mod_eq_of_lt (by omega)
   rw [this]
   by_cases h3:i<s.length-(n-p)
   ·rw [if_pos (by omega),if_pos (by omega),List.getElem?_take,if_pos (by omega),List.getElem?_drop]
    congr 1;omega
   ·rw [if_neg (by omega),if_neg (by omega),if_neg (by omega)]
theorem z5d {l s:List UInt8} {n:Nat} {b h a k:Int} (hl:l.length=n) (hb:0≤b) (hb':b<n) (hh:0≤h) (hh':h≤n) (ha:0≤a) (hk:0≤k) (hak:k≤h-a) (hp:(b+a).tmod n+k≤n) (hs:s.length=k.toNat):
    zk (zw l (off [(slO ((b+a).tmod n+k).toNat ((b+a).tmod n).toNat,1)]) s) b.toNat h.toNat=(zk l b.toNat h.toNat).take a.toNat++s++(zk l b.toNat h.toNat).drop (a.toNat+k.toNat)∧(zw l (off [(slO ((b+a).tmod n+k).toNat ((b+a).tmod n).toNat,1)]) s).length=n:=by
  have hm0:0≤(b+a).tmod n:=Int.tmod_nonneg _ (by omega)
  have hm1:(b+a).tmod n<n:=Int.tmod_lt_of_pos _ (by omega)
  have e0:((b+a).tmod n).toNat=(b.toNat+a.toNat)%n:=by rw [zcy (by omega)];congr 1;omega
  by_cases h0:k=0
  ·subst h0
   have:s= []:=List.length_eq_zero_iff.1 (by simpa using hs)
   subst this
   have e:zw l (off [(slO ((b+a).tmod n+0).toNat ((b+a).tmod n).toNat,1)]) []=l:=by simp [zw]
   rw [e,List.append_nil]
   exact ⟨(List.take_append_drop _ _).symm,hl⟩
  ·rw [yy (by omega),e0]
   have hoff:off [((b.toNat+a.toNat)%n,1)]=(b.toNat+a.toNat)%n:=by simp [off,zil]
   rw [hoff,←hs]
   have hfit:(b.toNat+a.toNat)%n+s.length≤n:=by omega
   refine ⟨?_,by rw [xd (by omega),hl]⟩
   subst hl
   exact zu8 (by omega) (by omega) (by omega) (xd hfit) (fun i hi=>z5l rfl hfit i hi)
theorem z5b {l s:List UInt8} {n:Nat} {b h a k:Int} (hl:l.length=n) (hb:0≤b) (hb':b<n) (hh:0≤h) (hh':h≤n) (ha:0≤a) (hk:0≤k) (hak:k≤h-a) (hp: ¬(b+a).tmod n+k≤n) (hs:s.length=k.toNat):
    zk (zw (zw l (off [(slO n ((b+a).tmod n).toNat,1)]) (s.take (n-((b+a).tmod n).toNat))) (off []) ((s.drop (n-((b+a).tmod n).toNat)).take (k-n+(b+a).tmod n).toNat)) b.toNat h.toNat=(zk l b.toNat h.toNat).take a.toNat++s++(zk l b.toNat h.toNat).drop (a.toNat+k.toNat)∧
    (zw (zw l (off [(slO n ((b+a).tmod n).toNat,1)]) (s.take (n-((b+a).tmod n).toNat))) (off []) ((s.drop (n-((b+a).tmod n).toNat)).take (k-n+(b+a).tmod n).toNat)).length=n:=by
  have hm0:0≤(b+a).tmod n:=Int.tmod_nonneg _ (by omega)
  have hm1:(b+a).tmod n<n:=Int.tmod_lt_of_pos _ (by omega)
  have e0:((b+a).tmod n).toNat=(b.toNat+a.toNat)%n:=by rw [zcy (by omega)];congr 1;omega
  have e5:(k-n+(b+a).tmod n).toNat=s.length-(n-(b.toNat+a.toNat)%n):=by omega
  rw [e5,yy (by omega),e0,←hs]
  have hoff:off [((b.toNat+a.toNat)%n,1)]=(b.toNat+a.toNat)%n:=by simp [off,zil]
  have hlt:(b.toNat+a.toNat)%n<n:=Nat.mod_lt _ (by omega)
  rw [hoff]
  have e6:off []=0:=rfl
  rw [e6]
  have hf:n<(b.toNat+a.toNat)%n+s.length:=by omega
  have g1:(b.toNat+a.toNat)%n+(s.take (n-(b.toNat+a.toNat)%n)).length≤l.length:=by rw [List.length_take];omega
  have hlen:(zw (zw l ((b.toNat+a.toNat)%n) (s.take (n-(b.toNat+a.toNat)%n))) 0 ((s.drop (n-(b.toNat+a.toNat)%n)).take (s.length-(n-(b.toNat+a.toNat)%n)))).length=n:=by
    rw [xd (by rw [xd g1,List.length_take,List.length_drop];omega),xd g1,hl]
  refine ⟨?_,hlen⟩
  subst hl
  exact zu8 (by omega) (by omega) (by omega) hlen (fun i hi=>z3w rfl hlt hf (by omega) i hi)
end Go.Sym.Ring

namespace Go.Sym.Z
open Go Go.Proofs.Tryz Go.Sym.Lp Go.Sym.Ring Go.Sym.Cha Go.Sym.Sha Go.Sym.Hk
set_option maxRecDepth 100000
attribute [local irreducible] zab exF kyF ivF yx xe yi inL ncF hdF lnz iA two zbb zk
def z9b:List (Nat×TyI):= [(3,ty3),(4,ty4),(5,ty5),(9,ty9),(48,zcp),(51,zco),(113,x4),(99,x3),(103,zck),(68,zgw),(70,zg0),(104,zcj),(97,zin),(56,zit),(121,zc3),(93,zhk),(43,zgz),(143,zet)]
theorem z1l: ∀t i,y3 z9b t=some i→yp prog t i:=(zc ty3_ok (zc zbm (zc zbe (zc ty9_ok (zc zak (zc zam (zc zai (zc za7 (zc zdq (zc zgq (zc zgn (zc zds (zc zkm (zc zky (zc zfj (zc zim (zc zgo (zc zrm x1))))))))))))))))))
structure Pq where
  oa:List (Nat×Nat)
  na:Nat
  ca:Nat
  ob:List (Nat×Nat)
  nb:Nat
  cb:Nat
  one:Bool
structure PqOK (q:Pq) (n:Nat) (b h a k:Int):Prop where
  h1:q.one=true→q.ob= []∧q.nb=0
  hn:q.na+q.nb=k.toNat
  ha:off q.oa+q.na≤n
  hb:off q.ob+q.nb≤n
  h2: ∀l:List UInt8,l.length=n→two l (off q.oa) q.na (off q.ob) q.nb=((zk l b.toNat h.toNat).drop a.toNat).take k.toNat
  h3: ∀l s:List UInt8,l.length=n→s.length=k.toNat→(zbb l (off q.oa) q.na (off q.ob) q.nb s).length=n∧zk (zbb l (off q.oa) q.na (off q.ob) q.nb s) b.toNat h.toNat=(zk l b.toNat h.toNat).take a.toNat++s++(zk l b.toNat h.toNat).drop (a.toNat+k.toNat)
theorem z7z {n:Nat} {b h a k:Int} (ca:Nat) (hb:0≤b) (hb':b<n) (hh:0≤h) (hh':h≤n) (ha:0≤a) (hk:0≤k) (hak:k≤h-a) (hp:(b+a).tmod n+k≤n):
    PqOK ⟨[(slO ((b+a).tmod n+k).toNat ((b+a).tmod n).toNat,1)],((b+a).tmod n+k).toNat-((b+a).tmod n).toNat,ca,[],0,0,true⟩ n b h a k:=by
  have hm0:0≤(b+a).tmod n:=Int.tmod_nonneg _ (by omega)
  have hm1:(b+a).tmod n<n:=Int.tmod_lt_of_pos _ (by omega)
  have hs:=ze4 ((b+a).tmod n+k).toNat ((b+a).tmod n).toNat
  refine ⟨fun _=>⟨rfl,rfl⟩,by dsimp only;omega,?_,by show 0+0≤n;omega,fun l hl=>?_,fun l s hl hsl=>?_⟩
  ·dsimp only
   show slO _ _+_≤n
   by_cases h0:k=0
   ·omega
   ·omega
  ·have:=zob (l:=l) (h:=h) hl hb hb' hh hh' ha hk hak hp
   unfold two
   show _++List.take 0 _=_
   rw [List.take_zero,List.append_nil]
   exact this
  ·obtain ⟨e1,e2⟩:=z5d (l:=l) (s:=s) (h:=h) hl hb hb' hh hh' ha hk hak hp hsl
   have e:zbb l (off [(slO ((b+a).tmod n+k).toNat ((b+a).tmod n).toNat,1)]) (((b+a).tmod n+k).toNat-((b+a).tmod n).toNat) (off []) 0 s=zw l (off [(slO ((b+a).tmod n+k).toNat ((b+a).tmod n).toNat,1)]) s:=by
     unfold zbb
     rw [List.take_zero,List.take_of_length_le (show s.length≤_ by omega)]
     generalize zw l _ s=y
     show zw y 0 []=y
     simp [zw]
   show (zbb l _ _ _ _ s).length=n∧zk (zbb l _ _ _ _ s) _ _=_
   rw [e]
   exact ⟨e2,e1⟩
theorem z70 {n:Nat} {b h a k:Int} (ca cb:Nat) (hb:0≤b) (hb':b<n) (hh:0≤h) (hh':h≤n) (ha:0≤a) (hk:0≤k) (hak:k≤h-a) (hp: ¬(b+a).tmod n+k≤n):
    PqOK ⟨[(slO n ((b+a).tmod n).toNat,1)],n-((b+a).tmod n).toNat,ca,[],(k-n+(b+a).tmod n).toNat,cb,false⟩ n b h a k:=by
  have hm0:0≤(b+a).tmod n:=Int.tmod_nonneg _ (by omega)
  have hm1:(b+a).tmod n<n:=Int.tmod_lt_of_pos _ (by omega)
  have hs:=ze4 n ((b+a).tmod n).toNat
  refine ⟨fun h=>Bool.noConfusion h,by dsimp only;omega,?_,by dsimp only;show 0+_≤n;omega,fun l hl=>?_,fun l s hl hsl=>?_⟩
  ·dsimp only
   show slO _ _+_≤n
   omega
  ·have:=zop (l:=l) (h:=h) hl hb hb' hh hh' ha hk hak hp
   unfold two
   exact this
  ·obtain ⟨e1,e2⟩:=z5b (l:=l) (s:=s) (h:=h) hl hb hb' hh hh' ha hk hak hp hsl
   unfold zbb
   exact ⟨e2,e1⟩
def zrl:Spec:=fun args hp K=>match args,hp with
  | [.ptr 0 0 0 [],.int a,.int k],[.mk t [.sl 1 0 0 [] n c,.int b,.int h],.mk u [.arr8 m l]]=>
    Pre (ym n c m l b h∧0≤a∧0≤k∧a≤h∧k≤h-a)
      (zag fun q:Pq=>PqOK q n b h a k→zv q.one
        (K (.tup [.sl 1 0 0 q.oa q.na q.ca,.nilsl]) [.mk t [.sl 1 0 0 [] n c,.int b,.int h],.mk u [.arr8 m l]])
        (K (.tup [.sl 1 0 0 q.oa q.na q.ca,.sl 1 0 0 q.ob q.nb q.cb]) [.mk t [.sl 1 0 0 [] n c,.int b,.int h],.mk u [.arr8 m l]]))
  |_,_=>False
theorem zxk:zp prog 110 zrl:=z1o z1g (by
  intro args hp K h
  unfold zrl at h
  split at h
  ·rename_i a k t n c b hh u m l
   obtain ⟨hpre,h⟩:=zm h
   have h:=xp h
   unfold zkw
   refine zr hpre ?_
   obtain ⟨h0,ha,hk,h1,h2⟩:=hpre
   unfold ym at h0
   have hcn:c=n:=by omega
   subst hcn
   by_cases hd:(b+a).tmod c+k≤c
   ·refine zi (decide_eq_true hd) ?_
    have h:=h _ (z7z (n:=c) (((b+a).tmod c+k).toNat-((b+a).tmod c).toNat) (by omega) (by omega) (by omega) (by omega) ha hk h2 hd)
    exact (zt h).1 rfl
   ·refine zj (decide_eq_false hd) ?_
    have h:=h _ (z70 (n:=c) (c-((b+a).tmod c).toNat) (k-c+(b+a).tmod c).toNat (by omega) (by omega) (by omega) (by omega) ha hk h2 hd)
    exact (zt h).2 rfl
  ·exact h.elim)
end Go.Sym.Z

namespace Go.Sym.Z
open Go Go.Proofs.Tryz Go.Sym.Lp Go.Sym.Ring Go.Sym.Cha Go.Sym.Sha Go.Sym.Hk
set_option maxRecDepth 100000
attribute [local irreducible] zab exF kyF ivF yx xe yi inL ncF hdF lnz iA two zbb zk
def z9f:List (Nat×List PStep):= []
theorem zz1 {l:List UInt8} {a na b nb i:Nat} (ha:a+na≤l.length) (hb:b+nb≤l.length) (hi:i<na+nb):(two l a na b nb).getD i 0=if i<na then l.getD (a+i) 0 else l.getD (b+(i-na)) 0:=by
  unfold two
  have hla:(List.take na (List.drop a l)).length=na:=by rw [List.length_take,List.length_drop];omega
  split
  ·rw [List.getD_eq_getElem?_getD,List.getElem?_append_left (by omega),List.getElem?_take,if_pos (by omega),List.getElem?_drop,←List.getD_eq_getElem?_getD]
  ·rw [List.getD_eq_getElem?_getD,List.getElem?_append_right (by omega),hla,List.getElem?_take,if_pos (by omega),List.getElem?_drop,←List.getD_eq_getElem?_getD]
attribute [local semireducible] lnz
theorem z1n {p:List UInt8} {j:Nat} (h:p.getD j 0=0):lnz p (j+1)=lnz p (j+1-1):=by simp only [lnz];rw [if_pos h];rfl
theorem z1f {p:List UInt8} {j:Nat} (h: ¬p.getD j 0=0):lnz p (j+1)=j+1:=by simp only [lnz];rw [if_neg h]
attribute [local irreducible] lnz
def z1y:Spec:=fun args hp K=>match args,hp with
  | [.int i,.ptr 0 0 0 [],.ptr 2 0 0 []],[.mk ta [.sl 1 0 0 oa na ca],.mk u [.arr8 m l],.mk tb [sb]]=>sbM 1 sb fun ob nb _=>Pre (0≤i∧i<((na+nb:Nat):Int)∧off oa+na≤l.length∧off ob+nb≤l.length∧na+nb≤1000000) (K (.u8 ((two l (off oa) na (off ob) nb).getD i.toNat 0)) [.mk ta [.sl 1 0 0 oa na ca],.mk u [.arr8 m l],.mk tb [sb]])
  |_,_=>False
set_option maxHeartbeats 4000000 in
theorem z8o:zp prog 112 z1y:=by
  refine zn x7 zl rfl func112 rfl call112 (D:=z9f) ?_ ?_
  ·intro args hp K h
   unfold z1y at h
   split at h
   ·exact Nat.le_of_ble_eq_true rfl
   ·exact h.elim
  ·intro args hp K h
   unfold z1y at h
   split at h
   ·rename_i i ta oa na ca u m l tb sb
    obtain ⟨ob,nb,cb,hsb,h9⟩:=zn1 h
    clear h
    obtain ⟨⟨h0,h1,ha,hb,hN⟩,h⟩:=zm h9
    clear h9
    have hg:=zz1 (i:=i.toNat) ha hb (by omega)
    by_cases hi:i<(na:Int)
    ·rw [if_pos (by omega)] at hg
     have hof:off (yb oa i.toNat ty5.sz)=off oa+i.toNat:=by rw [zy];show _+i.toNat*1=_;omega
     have hp:off (yb oa i.toNat ty5.sz)<l.length:=by omega
     rw [hg,←hof] at h
     rcases hsb with ⟨e1,e2,e3,e4⟩|e1
     case' inl=>subst e1 e2 e3 e4
     case' inr=>subst e1
     all_goals (
       refine za ?_
       refine y0 h ?_
       exact zu)
    ·rw [if_neg (by omega)] at hg
     rcases hsb with ⟨e1,e2,e3,e4⟩|e1
     case inl=>omega
     subst e1
     have hz:(i-(na:Int)).toNat=i.toNat-na:=by omega
     have hof:off (yb ob (i-(na:Int)).toNat ty5.sz)=off ob+(i.toNat-na):=by rw [zy,hz];show _+(i.toNat-na)*1=_;omega
     have hp:off (yb ob (i-(na:Int)).toNat ty5.sz)<l.length:=by omega
     rw [hg,←hof] at h
     refine za ?_
     refine y0 h ?_
     exact zu
   ·exact h.elim
end Go.Sym.Z

namespace Go.Sym.Z
open Go Go.Proofs.Tryz Go.Sym.Lp Go.Sym.Ring Go.Sym.Cha Go.Sym.Sha Go.Sym.Hk
set_option maxRecDepth 100000
attribute [local irreducible] zab exF kyF ivF yx xe yi inL ncF hdF lnz iA two zbb zk
def zqe:Spec:=fun args hp K=>match args,hp with
  | [.func 112 [.ptr 0 0 0 [],.ptr 2 0 0 []],.int z],[.mk ta [.sl 1 0 0 oa na ca],.mk u [.arr8 m l],.mk tb [sb]]=>sbM 1 sb fun ob nb _=>Pre (0≤z∧z≤((na+nb:Nat):Int)∧off oa+na≤l.length∧off ob+nb≤l.length∧na+nb≤1000000)
      (zv (decide (iA ((two l (off oa) na (off ob) nb).take z.toNat)= -1)) (K (.tup [.int (iK ((two l (off oa) na (off ob) nb).take z.toNat)),.int ((lnz ((two l (off oa) na (off ob) nb).take z.toNat) ((two l (off oa) na (off ob) nb).take z.toNat).length-1:Nat):Int),.int (-1)]) [.mk ta [.sl 1 0 0 oa na ca],.mk u [.arr8 m l],.mk tb [sb]]) (K (.tup [.int 0,.int 0,.int (iA ((two l (off oa) na (off ob) nb).take z.toNat))]) [.mk ta [.sl 1 0 0 oa na ca],.mk u [.arr8 m l],.mk tb [sb]]))
  |_,_=>False
set_option maxHeartbeats 8000000 in
theorem zza:zp prog 96 zqe:=by
  refine zn x7 (zd z8o zl) rfl func96 rfl call96 (D:=yac) ?_ ?_
  ·intro args hp K h
   unfold zqe at h
   split at h
   ·exact Nat.le_of_ble_eq_true rfl
   ·exact h.elim
  ·intro args hp K h
   unfold zqe at h
   split at h
   ·rename_i z ta oa na ca u m l tb sb
    obtain ⟨ob,nb,cb,hsb,h9⟩:=zn1 h
    clear h
    obtain ⟨⟨hz0,hz1,ha,hb,hN⟩,h⟩:=zm h9
    clear h9
    have hTl:=zv6 ha hb
    have hraw: ∀i,i<z.toNat→(two l (off oa) na (off ob) nb).getD i 0=((two l (off oa) na (off ob) nb).take z.toNat).getD i 0:=fun i hi=>by
      rw [List.getD_eq_getElem?_getD,List.getD_eq_getElem?_getD,List.getElem?_take,if_pos hi]
    obtain ⟨p,hp⟩: ∃p,p=(two l (off oa) na (off ob) nb).take z.toNat:=⟨_,rfl⟩
    have hpl:p.length=z.toNat:=by rw [hp,List.length_take,hTl];omega
    rw [←hp] at hraw h
    clear hp
    obtain ⟨ht,hf⟩:=zt h
    clear h
    have hl:z.toNat≤1000000:=by omega
    clear hTl
    rcases hsb with ⟨e1,e2,e3,e4⟩|e1
    ·subst e1 e2 e3 e4
     by_cases h1:16385<p.length
     ·have hv:iA p=22:=by unfold iA;rw [if_pos h1]
      have h:=hf (decide_eq_false (by rw [hv];decide))
      rw [hv] at h
      refine za ?_
      refine y0 h ?_
      exact zu
     ·refine za ?_
      refine zz (Zs p) (fun q=>⟨[(0,.func 112 [.ptr 0 0 0 [],.ptr 2 0 0 []]),(1,.int (q.k:Nat))],[.mk ta [.sl 1 0 0 oa na ca],.mk u [.arr8 m l],.mk tb [.nilsl]]⟩) (fun q=>q.k) ⟨p.length,Nat.le_refl _,rfl⟩ [0,1,2] ?_ ?_
      ·repeat ((conv=>whnf);refine zb ?_)
       conv=>whnf
       exact zx (congrArg SV.int (show z=((p.length:Nat):Int) by omega))
      ·intro q
       have hqk:=q.hk
       have hqz:=q.hz
       by_cases h0:0<q.k
       ·have hpi:0≤((q.k:Nat):Int)-1∧((q.k:Nat):Int)-1<z:=⟨by omega,by omega⟩
        have hix:(((q.k:Nat):Int)-1).toNat=q.k-1:=by omega
        have hg:=hraw (((q.k:Nat):Int)-1).toNat (by omega)
        have hgN:=congrArg UInt8.toNat hg
        obtain ⟨j,hj⟩: ∃j,q.k=j+1:=⟨q.k-1,by omega⟩
        by_cases hb0:p.getD (q.k-1) 0=0
        ·have hd:decide (p.getD (((q.k:Nat):Int)-1).toNat 0=UInt8.ofNat 0)=true:=decide_eq_true (by rw [hix];exact hb0)
         have hnx:lnz p p.length=lnz p (q.k-1):=by
           rw [hqz,hj];rw [hj,Nat.add_sub_cancel] at hb0;exact z1n hb0
         rw [←hg] at hd
         repeat ((conv=>whnf);first|refine zo ?_|refine zf ?_|refine zg ?_|refine zb ?_|refine zr (by first|exact hd|(rw [hd];rfl)|(exact ⟨by omega,by omega,ha,hb,hN⟩)) ?_|refine zi (by first|exact hd|(rw [hd];rfl)|(exact ⟨by omega,by omega,ha,hb,hN⟩)) ?_|refine zj (by first|exact hd|(rw [hd];rfl)|(exact ⟨by omega,by omega,ha,hb,hN⟩)) ?_)
         conv=>whnf
         refine ⟨⟨q.k-1,by omega,hnx⟩,[0,1,2],by show q.k-1<q.k;omega,?_⟩
         repeat ((conv=>whnf);refine zb ?_)
         conv=>whnf
         exact zx (congrArg SV.int (show ((q.k:Nat):Int)-1=((q.k-1:Nat):Int) by omega))
        ·have hd:decide (p.getD (((q.k:Nat):Int)-1).toNat 0=UInt8.ofNat 0)=false:=decide_eq_false (by rw [hix];exact hb0)
         have hlz:lnz p p.length=q.k:=by
           rw [hqz,hj];rw [hj,Nat.add_sub_cancel] at hb0;exact z1f hb0
         have hik:iK p=((p.getD (((q.k:Nat):Int)-1).toNat 0).toNat:Int):=by unfold iK;rw [hlz,hix]
         have hkm:((lnz p p.length-1:Nat):Int)=((q.k:Nat):Int)-1:=by rw [hlz];omega
         rw [←hg] at hd
         by_cases hgd:iK p=21∨iK p=22∨iK p=23
         ·have hv:iA p= -1:=by unfold iA;rw [if_neg h1,if_neg (by omega),if_pos hgd]
          have h:=ht (decide_eq_true hv)
          rw [hkm,hik,←hgN] at h
          rcases hgd with hgd|hgd|hgd
          all_goals (
            repeat ((conv=>whnf);first|refine zo ?_|refine zf ?_|refine zg ?_|refine zb ?_|refine zr (by first|exact hd|(rw [hd];rfl)|(exact ⟨by omega,by omega,ha,hb,hN⟩)) ?_|refine zi (by first|exact hd|(rw [hd];rfl)|(exact ⟨by omega,by omega,ha,hb,hN⟩)) ?_|refine zj (by first|exact hd|(rw [hd];rfl)|(exact ⟨by omega,by omega,ha,hb,hN⟩)) ?_)
            conv=>whnf
            refine y0 h ?_
            exact zu)
         ·have hv:iA p=10:=by unfold iA;rw [if_neg h1,if_neg (by omega),if_neg hgd]
          have h:=hf (decide_eq_false (by rw [hv];decide))
          rw [hv] at h
          repeat ((conv=>whnf);first|refine zo ?_|refine zf ?_|refine zg ?_|refine zb ?_|refine zr (by first|exact hd|(rw [hd];rfl)|(exact ⟨by omega,by omega,ha,hb,hN⟩)) ?_|refine zi (by first|exact hd|(rw [hd];rfl)|(exact ⟨by omega,by omega,ha,hb,hN⟩)) ?_|refine zj (by first|exact hd|(rw [hd];rfl)|(exact ⟨by omega,by omega,ha,hb,hN⟩)) ?_)
          conv=>whnf
          refine y0 h ?_
          exact zu
       ·have hlz:lnz p p.length=0:=by rw [hqz,show q.k=0 by omega];unfold lnz;rfl
        have hv:iA p=10:=by unfold iA;rw [if_neg h1,if_pos hlz]
        have h:=hf (decide_eq_false (by rw [hv];decide))
        rw [hv] at h
        refine za ?_
        refine y0 h ?_
        exact zu
    ·subst e1
     by_cases h1:16385<p.length
     ·have hv:iA p=22:=by unfold iA;rw [if_pos h1]
      have h:=hf (decide_eq_false (by rw [hv];decide))
      rw [hv] at h
      refine za ?_
      refine y0 h ?_
      exact zu
     ·refine za ?_
      refine zz (Zs p) (fun q=>⟨[(0,.func 112 [.ptr 0 0 0 [],.ptr 2 0 0 []]),(1,.int (q.k:Nat))],[.mk ta [.sl 1 0 0 oa na ca],.mk u [.arr8 m l],.mk tb [.sl 1 0 0 ob nb cb]]⟩) (fun q=>q.k) ⟨p.length,Nat.le_refl _,rfl⟩ [0,1,2] ?_ ?_
      ·repeat ((conv=>whnf);refine zb ?_)
       conv=>whnf
       exact zx (congrArg SV.int (show z=((p.length:Nat):Int) by omega))
      ·intro q
       have hqk:=q.hk
       have hqz:=q.hz
       by_cases h0:0<q.k
       ·have hpi:0≤((q.k:Nat):Int)-1∧((q.k:Nat):Int)-1<z:=⟨by omega,by omega⟩
        have hix:(((q.k:Nat):Int)-1).toNat=q.k-1:=by omega
        have hg:=hraw (((q.k:Nat):Int)-1).toNat (by omega)
        have hgN:=congrArg UInt8.toNat hg
        obtain ⟨j,hj⟩: ∃j,q.k=j+1:=⟨q.k-1,by omega⟩
        by_cases hb0:p.getD (q.k-1) 0=0
        ·have hd:decide (p.getD (((q.k:Nat):Int)-1).toNat 0=UInt8.ofNat 0)=true:=decide_eq_true (by rw [hix];exact hb0)
         have hnx:lnz p p.length=lnz p (q.k-1):=by
           rw [hqz,hj];rw [hj,Nat.add_sub_cancel] at hb0;exact z1n hb0
         rw [←hg] at hd
         repeat ((conv=>whnf);first|refine zo ?_|refine zf ?_|refine zg ?_|refine zb ?_|refine zr (by first|exact hd|(rw [hd];rfl)|(exact ⟨by omega,by omega,ha,hb,hN⟩)) ?_|refine zi (by first|exact hd|(rw [hd];rfl)|(exact ⟨by omega,by omega,ha,hb,hN⟩)) ?_|refine zj (by first|exact hd|(rw [hd];rfl)|(exact ⟨by omega,by omega,ha,hb,hN⟩)) ?_)
         conv=>whnf
         refine ⟨⟨q.k-1,by omega,hnx⟩,[0,1,2],by show q.k-1<q.k;omega,?_⟩
         repeat ((conv=>whnf);refine zb ?_)
         conv=>whnf
         exact zx (congrArg SV.int (show ((q.k:Nat):Int)-1=((q.k-1:Nat):Int) by omega))
        ·have hd:decide (p.getD (((q.k:Nat):Int)-1).toNat 0=UInt8.ofNat 0)=false:=decide_eq_false (by rw [hix];exact hb0)
         have hlz:lnz p p.length=q.k:=by
           rw [hqz,hj];rw [hj,Nat.add_sub_cancel] at hb0;exact z1f hb0
         have hik:iK p=((p.getD (((q.k:Nat):Int)-1).toNat 0).toNat:Int):=by unfold iK;rw [hlz,hix]
         have hkm:((lnz p p.length-1:Nat):Int)=((q.k:Nat):Int)-1:=by rw [hlz];omega
         rw [←hg] at hd
         by_cases hgd:iK p=21∨iK p=22∨iK p=23
         ·have hv:iA p= -1:=by unfold iA;rw [if_neg h1,if_neg (by omega),if_pos hgd]
          have h:=ht (decide_eq_true hv)
          rw [hkm,hik,←hgN] at h
          rcases hgd with hgd|hgd|hgd
          all_goals (
            repeat ((conv=>whnf);first|refine zo ?_|refine zf ?_|refine zg ?_|refine zb ?_|refine zr (by first|exact hd|(rw [hd];rfl)|(exact ⟨by omega,by omega,ha,hb,hN⟩)) ?_|refine zi (by first|exact hd|(rw [hd];rfl)|(exact ⟨by omega,by omega,ha,hb,hN⟩)) ?_|refine zj (by first|exact hd|(rw [hd];rfl)|(exact ⟨by omega,by omega,ha,hb,hN⟩)) ?_)
            conv=>whnf
            refine y0 h ?_
            exact zu)
         ·have hv:iA p=10:=by unfold iA;rw [if_neg h1,if_neg (by omega),if_neg hgd]
          have h:=hf (decide_eq_false (by rw [hv];decide))
          rw [hv] at h
          repeat ((conv=>whnf);first|refine zo ?_|refine zf ?_|refine zg ?_|refine zb ?_|refine zr (by first|exact hd|(rw [hd];rfl)|(exact ⟨by omega,by omega,ha,hb,hN⟩)) ?_|refine zi (by first|exact hd|(rw [hd];rfl)|(exact ⟨by omega,by omega,ha,hb,hN⟩)) ?_|refine zj (by first|exact hd|(rw [hd];rfl)|(exact ⟨by omega,by omega,ha,hb,hN⟩)) ?_)
          conv=>whnf
          refine y0 h ?_
          exact zu
       ·have hlz:lnz p p.length=0:=by rw [hqz,show q.k=0 by omega];unfold lnz;rfl
        have hv:iA p=10:=by unfold iA;rw [if_neg h1,if_pos hlz]
        have h:=hf (decide_eq_false (by rw [hv];decide))
        rw [hv] at h
        refine za ?_
        refine y0 h ?_
        exact zu
   ·exact h.elim
end Go.Sym.Z

namespace Go.Sym.Z
open Go Go.Proofs.Tryz Go.Sym.Lp Go.Sym.Ring Go.Sym.Cha Go.Sym.Sha Go.Sym.Hk
set_option maxRecDepth 100000
attribute [local irreducible] zab exF kyF ivF yx xe yi inL ncF hdF lnz iA two zbb zk iK
def ycq:List (Nat×List PStep):= [(3,[⟨0,[]⟩,⟨1,[]⟩,⟨2,[]⟩,⟨3,[]⟩,⟨4,[0,1,2,3]⟩,⟨5,[0,1,2,3,4]⟩,⟨6,[0,1,2,3,4,5]⟩,⟨7,[]⟩,⟨8,[]⟩,⟨9,[]⟩,⟨10,[9]⟩,⟨11,[10]⟩,⟨12,[]⟩])]
def inT (k:Kq) (r:List UInt8):List UInt8:=yi k.w k.key (ncF k.iv k.m) (r.take (r.length-16))
def inO (k:Kq) (hd r:List UInt8):Prop:=16≤r.length∧xe k.w k.key (ncF k.iv k.m) hd (r.take (r.length-16))=r.drop (r.length-16)
instance (k:Kq) (hd r:List UInt8):Decidable (inO k hd r):=by unfold inO;exact inferInstance
def zr5 (R:Option Kq) (kind:Int) (hd r:List UInt8) (ok okN:Int→List UInt8→Prop) (no bad:Int→Prop):Prop:=match R with
  |none=>ok kind r
  |some k=>zv (decide (kind=20)) (ok kind r) (zv (decide (inO k hd r)) (zv (decide (iA (inT k r)= -1)) (okN (iK (inT k r)) ((inT k r).take (lnz (inT k r) (inT k r).length-1))) (bad (iA (inT k r)))) (no 20))
theorem zhp {n c m:Nat} {l l':List UInt8} {b h:Int} (h0:ym n c m l b h) (hl:l'.length=n):ym n c m l' b h:=by
  unfold ym at h0 ⊢;omega
theorem z01 {ct s X:List UInt8} {a k:Nat} (ha:a≤ct.length) (hs:s.length=k):((ct.take a++s++X).drop a).take k=s:=by
  rw [List.append_assoc,List.drop_left' (by rw [List.length_take];omega),List.take_left' hs]
theorem zy6 {ct s X:List UInt8} {a k:Nat} (ha:a≤ct.length) (hs:s.length=k):(ct.take a++s++X).drop (a+k)=X:=List.drop_left' (by rw [List.length_append,List.length_take];omega)
theorem zxq {ct u v X:List UInt8} {a k:Nat} (ha:a≤ct.length) (hk:k≤u.length):((ct.take a++(u++v)++X).drop a).take k=u.take k:=by
  rw [List.append_assoc,List.drop_left' (by rw [List.length_take];omega),List.append_assoc,List.take_append_of_le_length hk]
def zuz:Spec:=fun args hp K=>match args with
  | [.ptr 0 0 0 [],.str hd,.int kind,.int z]=>stM hp fun p W R f n b h l=>Pre (ym n n n l b h∧0≤z∧5+z≤h∧z≤16640∧wOK R∧hd.length≤100)
      (zr5 R kind hd (((zk l b.toNat h.toNat).drop 5).take z.toNat)
        (fun k d=>K (.tup [.agg [.int k,.str d],.int (-1)]) (stH p W R f n b h l))
        (fun k d=>zag fun l':List UInt8=>(l'.length=n∧(zk l' b.toNat h.toNat).drop (5+z.toNat)=(zk l b.toNat h.toNat).drop (5+z.toNat))→K (.tup [.agg [.int k,.str d],.int (-1)]) (stH p W (upK R) f n b h l'))
        (fun a=>K (.tup [.agg [.int 0,.str []],.int a]) (stH p W R f n b h l))
        (fun a=>zag fun l':List UInt8=>l'.length=n→K (.tup [.agg [.int 0,.str []],.int a]) (stH p W (upK R) f n b h l')))
  |_=>False
set_option maxHeartbeats 16000000 in
theorem z5g:zp prog 83 zuz:=by
  refine zn z1l (zd zxk (zd zw7 (zd zza (zd zwp zl)))) rfl func83 rfl call83 (D:=ycq) ?_ ?_
  ·intro args hp K h
   unfold zuz at h
   split at h
   ·exact Nat.le_of_ble_eq_true rfl
   ·exact h.elim
  ·intro args hp K h
   unfold zuz at h
   split at h
   ·rename_i hd kind z
    obtain ⟨t0,t1,t2,t3,t4,p,W,R,f,n,b,hh,l,ehp,h9⟩:=zdu h
    clear h
    subst ehp
    obtain ⟨⟨h0,hz0,hz1,hz2,hok,hdl⟩,h⟩:=zm h9
    clear h9
    have h0':=h0
    unfold ym at h0'
    have hln:l.length=n:=by omega
    have hcl:(zk l b.toNat hh.toNat).length=hh.toNat:=xt (by omega) (by omega)
    obtain ⟨r,hr⟩: ∃r,r=((zk l b.toNat hh.toNat).drop 5).take z.toNat:=⟨_,rfl⟩
    have hrl:r.length=z.toNat:=by rw [hr,List.length_take,List.length_drop,hcl];omega
    have hpp:ym n n n l b hh∧(0:Int)≤5∧0≤z∧5≤hh∧z≤hh-5:=⟨h0,by decide,hz0,by omega,by omega⟩
    have hpk:decide ((0:Int)≤5∧0≤z∧5≤hh∧z≤hh-5)=true:=decide_eq_true ⟨by decide,hz0,by omega,by omega⟩
    have hr':List.take z.toNat (List.drop (Int.toNat 5) (zk l b.toNat hh.toNat))=r:=hr.symm
    rw [←hr] at h
    rcases R with _|⟨bw,bk,bi,bm⟩
    ·rcases W with _|⟨aw,ak,ai,am⟩
     all_goals (
       dsimp only [zaq]
       refine za ?_
       refine yh fun q hq=>?_
       obtain ⟨oa,na,ca,ob,nb,cb,one⟩:=q
       cases one
       all_goals (
         repeat ((conv=>whnf);first|refine zo ?_|refine zf ?_|refine zg ?_|refine zb ?_|refine zr (by first|exact hpk|(rw [hpk];rfl)) ?_|refine zi (by first|exact hpk|(rw [hpk];rfl)) ?_|refine zj (by first|exact hpk|(rw [hpk];rfl)) ?_)
         conv=>whnf
         rw [hr']
         refine y0 h ?_
         exact zu))
    ·obtain ⟨ht,hf⟩:=zt h
     by_cases hk:kind=20
     ·have h:=ht (decide_eq_true hk)
      have d20:=decide_eq_true hk
      rcases W with _|⟨aw,ak,ai,am⟩
      all_goals (
        dsimp only [zaq]
        refine za ?_
        refine yh fun q hq=>?_
        obtain ⟨oa,na,ca,ob,nb,cb,one⟩:=q
        cases one
        all_goals (
          repeat ((conv=>whnf);first|refine zo ?_|refine zf ?_|refine zg ?_|refine zb ?_|refine zr (by first|exact hpk|(rw [hpk];rfl)|(rw [d20];rfl)) ?_|refine zi (by first|exact hpk|(rw [hpk];rfl)|(rw [d20];rfl)) ?_|refine zj (by first|exact hpk|(rw [hpk];rfl)|(rw [d20];rfl)) ?_)
          conv=>whnf
          rw [hr']
          refine y0 h ?_
          exact zu))
     ·have h:=hf (decide_eq_false hk)
      have d20:=decide_eq_false hk
      clear ht hf
      obtain ⟨ht,hf⟩:=zt h
      clear h
      have hok:zcu bw bk bi bm:=hok
      have hdA:(yi bw bk (ncF bi bm) (List.take (r.length-16) r)).length=r.length-16:=by rw [xg,List.length_take];omega
      rcases W with _|⟨aw,ak,ai,am⟩
      all_goals (
        dsimp only [zaq]
        refine za ?_
        refine yh fun q hq=>?_
        have hna:=hq.ha
        have hnb:=hq.hb
        have hN:=hq.hn
        have hq2:=hq.h2
        have hq3:=hq.h3
        have hone:=hq.h1
        clear hq
        conv=>whnf
        cases ho:q.one
        case' true=>
          obtain ⟨e1,e2⟩:=hone ho
          rw [e2] at hN
          rw [e1,e2] at hnb hq2 hq3
        all_goals (
          have h2r:=(hq2 l hln).trans hr'
          rw [←hrl] at hN hq2
          have hpo:zcu bw bk bi bm∧hd.length≤100:=⟨hok,hdl⟩
          by_cases hop:inO ⟨bw,bk,bi,bm⟩ hd r
          ·have h16:=hop.1
           have e:decide (16≤r.length∧xe bw bk (ncF bi bm) hd (r.take (r.length-16))=r.drop (r.length-16))=true:=decide_eq_true hop
           have h:=ht (decide_eq_true hop)
           obtain ⟨ht,hf⟩:=zt h
           have hsl:(yi bw bk (ncF bi bm) (List.take (r.length-16) r)++List.drop (r.length-16) r).length=r.length:=by rw [List.length_append,hdA,List.length_drop];omega
           obtain ⟨hl1,hc1⟩:=hq3 l _ hln (hsl.trans hrl)
           have hp2:=hq2 _ hl1
           rw [hc1] at hp2
           have hp3:=hp2.trans (z01 (by rw [hcl];show 5≤_;omega) hsl)
           have htl:List.take (((r.length:Nat):Int)-16).toNat (yi bw bk (ncF bi bm) (List.take (r.length-16) r)++List.drop (r.length-16) r)=yi bw bk (ncF bi bm) (List.take (r.length-16) r):=List.take_left' (by rw [hdA];omega)
           repeat ((conv=>whnf);first|refine zo ?_|refine zf ?_|refine zg ?_|refine zb ?_|refine zr (by first|(rw [d20];rfl)|exact d20|(refine ⟨hok,hdl,?_,?_,?_⟩<;>omega)|(rw [h2r,hN];exact e)) ?_|refine zi (by first|(rw [d20];rfl)|exact d20|(refine ⟨hok,hdl,?_,?_,?_⟩<;>omega)|(rw [h2r,hN];exact e)) ?_|refine zj (by first|(rw [d20];rfl)|exact d20|(refine ⟨hok,hdl,?_,?_,?_⟩<;>omega)|(rw [h2r,hN];exact e)) ?_)
           conv=>whnf
           rw [h2r,hN]
           by_cases hi:iA (inT ⟨bw,bk,bi,bm⟩ r)= -1
           ·have h:=ht (decide_eq_true hi)
            have e2:decide (iA (yi bw bk (ncF bi bm) (List.take (r.length-16) r))= -1)=true:=decide_eq_true hi
            repeat ((conv=>whnf);first|refine zo ?_|refine zf ?_|refine zg ?_|refine zb ?_|refine zr (by first|(refine ⟨?_,?_,?_,?_,?_⟩<;>omega)|(rw [hp3,htl];exact e2)) ?_|refine zi (by first|(refine ⟨?_,?_,?_,?_,?_⟩<;>omega)|(rw [hp3,htl];exact e2)) ?_|refine zj (by first|(refine ⟨?_,?_,?_,?_,?_⟩<;>omega)|(rw [hp3,htl];exact e2)) ?_)
            conv=>whnf
            rw [hp3,htl]
            have hlz:=zps (yi bw bk (ncF bi bm) (List.take (r.length-16) r)) (yi bw bk (ncF bi bm) (List.take (r.length-16) r)).length
            have hrg:ym n n n _ b hh:=zhp h0 hl1
            have hpk2:decide ((0:Int)≤5∧0≤((lnz (yi bw bk (ncF bi bm) (List.take (r.length-16) r)) (yi bw bk (ncF bi bm) (List.take (r.length-16) r)).length-1:Nat):Int)∧5≤hh∧((lnz (yi bw bk (ncF bi bm) (List.take (r.length-16) r)) (yi bw bk (ncF bi bm) (List.take (r.length-16) r)).length-1:Nat):Int)≤hh-5)=true:=decide_eq_true ⟨by decide,by omega,by omega,by omega⟩
            repeat ((conv=>whnf);first|refine zo ?_|refine zf ?_|refine zg ?_|refine zb ?_|refine zr (by first|exact hpk2|(rw [hpk2];rfl)) ?_|refine zi (by first|exact hpk2|(rw [hpk2];rfl)) ?_|refine zj (by first|exact hpk2|(rw [hpk2];rfl)) ?_)
            conv=>whnf
            have htail:List.drop (5+z.toNat) (zk _ b.toNat hh.toNat)=List.drop (5+z.toNat) (zk l b.toNat hh.toNat):=(congrArg (List.drop (5+z.toNat)) hc1).trans (zy6 (by rw [hcl];show 5≤_;omega) (hsl.trans hrl))
            have hdat:=zxq (ct:=zk l b.toNat hh.toNat) (X:=List.drop (Int.toNat 5+z.toNat) (zk l b.toNat hh.toNat)) (a:=Int.toNat 5) (u:=yi bw bk (ncF bi bm) (List.take (r.length-16) r)) (v:=List.drop (r.length-16) r) (k:=(((lnz (yi bw bk (ncF bi bm) (List.take (r.length-16) r)) (yi bw bk (ncF bi bm) (List.take (r.length-16) r)).length-1:Nat):Int)).toNat) (by rw [hcl];show 5≤_;omega) (by omega)
            rw [hc1,hdat]
            refine y0 (xp h _ ⟨hl1,htail⟩) ?_
            exact zu
           ·have h:=hf (decide_eq_false hi)
            have e2:decide (iA (yi bw bk (ncF bi bm) (List.take (r.length-16) r))= -1)=false:=decide_eq_false hi
            repeat ((conv=>whnf);first|refine zo ?_|refine zf ?_|refine zg ?_|refine zb ?_|refine zr (by first|(refine ⟨?_,?_,?_,?_,?_⟩<;>omega)|(rw [hp3,htl];exact e2)|(rw [hp3,htl,e2];rfl)) ?_|refine zi (by first|(refine ⟨?_,?_,?_,?_,?_⟩<;>omega)|(rw [hp3,htl];exact e2)|(rw [hp3,htl,e2];rfl)) ?_|refine zj (by first|(refine ⟨?_,?_,?_,?_,?_⟩<;>omega)|(rw [hp3,htl];exact e2)|(rw [hp3,htl,e2];rfl)) ?_)
            conv=>whnf
            rw [hp3,htl]
            refine y0 (xp h _ hl1) ?_
            exact zu
          ·have e:decide (16≤r.length∧xe bw bk (ncF bi bm) hd (r.take (r.length-16))=r.drop (r.length-16))=false:=decide_eq_false hop
           have h:=hf (decide_eq_false hop)
           repeat ((conv=>whnf);first|refine zo ?_|refine zf ?_|refine zg ?_|refine zb ?_|refine zr (by first|(rw [d20];rfl)|exact d20|(refine ⟨hok,hdl,?_,?_,?_⟩<;>omega)|(rw [h2r,hN];exact e)) ?_|refine zi (by first|(rw [d20];rfl)|exact d20|(refine ⟨hok,hdl,?_,?_,?_⟩<;>omega)|(rw [h2r,hN];exact e)) ?_|refine zj (by first|(rw [d20];rfl)|exact d20|(refine ⟨hok,hdl,?_,?_,?_⟩<;>omega)|(rw [h2r,hN];exact e)) ?_)
           conv=>whnf
           refine y0 h ?_
           exact zu))
   ·exact h.elim
end Go.Sym.Z
