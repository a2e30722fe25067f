/-
  Contracts of functions of the program, each said of symbolic values, and plain laws; no condition beyond each statement's own.
-/
import Derived.Test.YtmmpgjcpielefaaGreatGLStreamTwins28
set_option linter.unusedSimpArgs false
set_option linter.unusedVariables false
namespace Go.Sym.Z
open Go Go.Proofs.Tryz Go.Sym.Lp Go.Sym.Cha Go.Sym.Sha Go.Sym.Hk
set_option maxRecDepth 100000
attribute [local irreducible] zab exF kyF ivF yx xe yi inL ncF hdF
def ybj:List (Nat×List PStep):= [(10,[⟨0,[]⟩,⟨1,[]⟩,⟨2,[]⟩,⟨3,[]⟩,⟨4,[0,1,2,3]⟩,⟨5,[0,1,2,3]⟩,⟨6,[0,1,2,3]⟩,⟨7,[0,1,2,3]⟩,⟨8,[0,1,2,3,4,5,6,7]⟩,⟨10,[0,1,2,3,4,5,6,7,8]⟩,⟨11,[0,1,2,3,4,5,6,7,8,10]⟩,⟨9,[0,1,2,3,4,5,6,7,10,11]⟩,⟨12,[]⟩,⟨13,[]⟩])]
def ydh:List (Nat×List PStep):= []
theorem zek (k n:Int):(hdF k n).length=5:=by unfold hdF;rfl
theorem zp8 {p n:Int} (hn0:0≤n) (hn:n≤16384) (hp:0≤p):n+1≤inL p n∧inL p n≤16385:=by
  unfold inL
  split
  ·rename_i h0
   have h:=Int.lt_ediv_add_one_mul_self (n+1+p-1) h0
   rw [Int.add_mul,Int.one_mul] at h
   omega
  ·omega
def zf3 (p:Int) (kind:Int) (s:List UInt8):List UInt8:=s++UInt8.ofInt kind ::List.replicate ((inL p s.length).toNat-s.length-1) 0
def zas (p w:Int) (key iv:List UInt8) (m kind:Int) (s:List UInt8):List UInt8:=
  hdF 23 ((inL p s.length)+16)++yx w key (ncF iv m) (hdF 23 ((inL p s.length)+16)) (zf3 p kind s)
def zcu (w:Int) (key iv:List UInt8) (m:Int):Prop:=su w∧key.length=aSz w∧iv.length=12∧0≤m∧m≤1000000000
theorem zfs {w:Int} {key iv:List UInt8} {m:Int} (h:zcu w key iv m):zd5 w key.length:=by
  obtain ⟨h1,h2,_⟩:=h
  rw [h2]
  unfold zd5 aSz
  rcases h1 with e|e|e<;>subst e<;>simp
theorem zmm {L:Nat} {s:List UInt8} (h:s.length+1≤L) (k:UInt8) {i:Nat} (hi:i=s.length):(zw (List.replicate (L+16) 0) (off []) (List.take (min s.length (L+16)) s)).set i k=s++k ::List.replicate (L+16-s.length-1) 0:=by
  subst hi
  rw [List.take_of_length_le (show s.length≤min s.length (L+16) by omega)]
  unfold zw
  show (List.take 0 _++s++List.drop (0+s.length) _).set _ _=_
  rw [List.take_zero,List.nil_append,List.drop_replicate,Nat.zero_add,List.set_append_right _ _ (Nat.le_refl _),Nat.sub_self,show L+16-s.length=(L+16-s.length-1)+1 by omega,List.replicate_succ]
  rfl
theorem zhn {L:Nat} {s:List UInt8} (h:s.length+1≤L) (k:UInt8):(s++k ::List.replicate (L+16-s.length-1) 0).take L=s++k ::List.replicate (L-s.length-1) 0:=by
  rw [List.take_append,List.take_of_length_le (by omega),show L-s.length=(L-s.length-1)+1 by omega,List.take_succ_cons,List.take_replicate]
  congr 3
  omega
def zuk:Spec:=fun args hp K=>match args,hp with
  | [.ptr 0 0 0 [],.int kind,.str s],[.mk t0 [.int p,.nilptr,.nilptr,.str held,.int f]]=>Pre (s.length≤140737488351232) (zv (decide (yu kind∧s.length≤16384)) (K (.tup [.str (hdF kind s.length++s),.int 0]) [.mk t0 [.int p,.nilptr,.nilptr,.str held,.int f]]) (K (.tup [.str [],.int 2100]) [.mk t0 [.int p,.nilptr,.nilptr,.str held,.int f]]))
  | [.ptr 0 0 0 [],.int kind,.str s],[.mk t0 [.int p,.nilptr,.ptr 1 0 0 [],.str held,.int f],.mk tkb [.int bw,.str bkey,.str biv,.int bm]]=>Pre (s.length≤140737488351232) (zv (decide (yu kind∧s.length≤16384)) (K (.tup [.str (hdF kind s.length++s),.int 0]) [.mk t0 [.int p,.nilptr,.ptr 1 0 0 [],.str held,.int f],.mk tkb [.int bw,.str bkey,.str biv,.int bm]]) (K (.tup [.str [],.int 2100]) [.mk t0 [.int p,.nilptr,.ptr 1 0 0 [],.str held,.int f],.mk tkb [.int bw,.str bkey,.str biv,.int bm]]))
  | [.ptr 0 0 0 [],.int kind,.str s],[.mk t0 [.int p,.ptr 1 0 0 [],.nilptr,.str held,.int f],.mk tka [.int aw,.str akey,.str aiv,.int am]]=>Pre (zcu aw akey aiv am∧0≤p∧p≤16384∧s.length≤140737488351232) (zv (decide (yu kind∧s.length≤16384)) (K (.tup [.str (zas p aw akey aiv am kind s),.int 0]) [.mk t0 [.int p,.ptr 1 0 0 [],.nilptr,.str held,.int f],.mk tka [.int aw,.str akey,.str aiv,.int (am+1)]]) (K (.tup [.str [],.int 2100]) [.mk t0 [.int p,.ptr 1 0 0 [],.nilptr,.str held,.int f],.mk tka [.int aw,.str akey,.str aiv,.int am]]))
  | [.ptr 0 0 0 [],.int kind,.str s],[.mk t0 [.int p,.ptr 1 0 0 [],.ptr 2 0 0 [],.str held,.int f],.mk tka [.int aw,.str akey,.str aiv,.int am],.mk tkb [.int bw,.str bkey,.str biv,.int bm]]=>Pre (zcu aw akey aiv am∧0≤p∧p≤16384∧s.length≤140737488351232) (zv (decide (yu kind∧s.length≤16384)) (K (.tup [.str (zas p aw akey aiv am kind s),.int 0]) [.mk t0 [.int p,.ptr 1 0 0 [],.ptr 2 0 0 [],.str held,.int f],.mk tka [.int aw,.str akey,.str aiv,.int (am+1)],.mk tkb [.int bw,.str bkey,.str biv,.int bm]]) (K (.tup [.str [],.int 2100]) [.mk t0 [.int p,.ptr 1 0 0 [],.ptr 2 0 0 [],.str held,.int f],.mk tka [.int aw,.str akey,.str aiv,.int am],.mk tkb [.int bw,.str bkey,.str biv,.int bm]]))
  |_,_=>False
set_option maxHeartbeats 4000000 in
theorem z4a:zp prog 45 zuk:=by
  refine zn yw (zd zo0 (zd zvb (zd zy2 (zd zks (zd znl zl))))) rfl func45 rfl call45 (D:=ybj) ?_ ?_
  ·intro args hp K h
   unfold zuk at h
   split at h
   ·exact Nat.le_of_ble_eq_true rfl
   ·exact Nat.le_of_ble_eq_true rfl
   ·exact Nat.le_of_ble_eq_true rfl
   ·exact Nat.le_of_ble_eq_true rfl
   ·exact h.elim
  ·intro args hp K h
   unfold zuk at h
   split at h
   ·rename_i kind s t0 p held f
    obtain ⟨hs,h⟩:=zm h
    obtain ⟨ht,hf⟩:=zt h
    by_cases hk:yu kind
    ·have dk:=decide_eq_true hk
     by_cases hl:s.length≤16384
     ·have h:=ht (decide_eq_true ⟨hk,hl⟩)
      have hhl:=zek kind s.length
      repeat ((conv=>whnf);first|refine zo ?_|refine zf ?_|refine zg ?_|refine zb ?_|refine zr (by first|exact dk|(rw [dk];rfl)) ?_|refine zi (by first|exact dk|(rw [dk];rfl)) ?_|refine zj (by first|exact dk|(rw [dk];rfl)) ?_)
      conv=>whnf
      exact zh [0] h
     ·have h:=hf (decide_eq_false fun hh=>hl hh.2)
      repeat ((conv=>whnf);first|refine zo ?_|refine zf ?_|refine zg ?_|refine zb ?_|refine zr (by first|exact dk|(rw [dk];rfl)) ?_|refine zi (by first|exact dk|(rw [dk];rfl)) ?_|refine zj (by first|exact dk|(rw [dk];rfl)) ?_)
      conv=>whnf
      exact zh [0] h
    ·have dk:=decide_eq_false hk
     have h:=hf (decide_eq_false fun hh=>hk hh.1)
     repeat ((conv=>whnf);first|refine zo ?_|refine zf ?_|refine zg ?_|refine zb ?_|refine zr (by first|exact dk|(rw [dk];rfl)) ?_|refine zi (by first|exact dk|(rw [dk];rfl)) ?_|refine zj (by first|exact dk|(rw [dk];rfl)) ?_)
     conv=>whnf
     exact zh [0] h
   ·rename_i kind s t0 p held f tkb bw bkey biv bm
    obtain ⟨hs,h⟩:=zm h
    obtain ⟨ht,hf⟩:=zt h
    by_cases hk:yu kind
    ·have dk:=decide_eq_true hk
     by_cases hl:s.length≤16384
     ·have h:=ht (decide_eq_true ⟨hk,hl⟩)
      have hhl:=zek kind s.length
      repeat ((conv=>whnf);first|refine zo ?_|refine zf ?_|refine zg ?_|refine zb ?_|refine zr (by first|exact dk|(rw [dk];rfl)) ?_|refine zi (by first|exact dk|(rw [dk];rfl)) ?_|refine zj (by first|exact dk|(rw [dk];rfl)) ?_)
      conv=>whnf
      exact zh [0,1] h
     ·have h:=hf (decide_eq_false fun hh=>hl hh.2)
      repeat ((conv=>whnf);first|refine zo ?_|refine zf ?_|refine zg ?_|refine zb ?_|refine zr (by first|exact dk|(rw [dk];rfl)) ?_|refine zi (by first|exact dk|(rw [dk];rfl)) ?_|refine zj (by first|exact dk|(rw [dk];rfl)) ?_)
      conv=>whnf
      exact zh [0,1] h
    ·have dk:=decide_eq_false hk
     have h:=hf (decide_eq_false fun hh=>hk hh.1)
     repeat ((conv=>whnf);first|refine zo ?_|refine zf ?_|refine zg ?_|refine zb ?_|refine zr (by first|exact dk|(rw [dk];rfl)) ?_|refine zi (by first|exact dk|(rw [dk];rfl)) ?_|refine zj (by first|exact dk|(rw [dk];rfl)) ?_)
     conv=>whnf
     exact zh [0,1] h
   ·rename_i kind s t0 p held f tka aw akey aiv am
    obtain ⟨⟨hok,hp0,hp1,hs⟩,h⟩:=zm h
    obtain ⟨ht,hf⟩:=zt h
    by_cases hk:yu kind
    ·have dk:=decide_eq_true hk
     by_cases hl:s.length≤16384
     ·have h:=ht (decide_eq_true ⟨hk,hl⟩)
      have hky:=zfs hok
      obtain ⟨hw,hkl,hiv,hm0,hm1⟩:=hok
      have hnl:=zh4 aiv am
      have hin:0≤(s.length:Int)∧(s.length:Int)≤16384∧0≤p∧p≤16384:=⟨by omega,by omega,hp0,hp1⟩
      obtain ⟨hi1,hi2⟩:=zp8 (p:=p) (n:=(s.length:Int)) (by omega) (by omega) hp0
      obtain ⟨L,hL⟩: ∃L:Nat,inL p (s.length:Int)=(L:Int):=⟨_,(Int.toNat_of_nonneg (by omega)).symm⟩
      have hLn:(inL p (s.length:Int)).toNat=L:=by rw [hL];exact Int.toNat_natCast _
      unfold zas zf3 at h
      have hcast:(L:Int)+16=((L+16:Nat):Int):=by omega
      rw [hLn,hL,hcast] at h
      have hLt:((L:Int)+16).toNat=L+16:=by omega
      have hix:off (yb [] ((s.length:Int)).toNat ty5.sz)=s.length:=by rw [zy];show 0+((s.length:Int)).toNat*1=_;omega
      have hsl1:s.length+1≤L:=by omega
      have hB:=zmm (L:=L) (s:=s) hsl1 (UInt8.ofInt kind) hix
      obtain ⟨BB,hBB⟩: ∃BB,BB=s++UInt8.ofInt kind ::List.replicate (L+16-s.length-1) 0:=⟨_,rfl⟩
      have hBl:BB.length=L+16:=by rw [hBB,List.length_append,List.length_cons,List.length_replicate];omega
      have hBt:BB.take (L+16-16)=s++UInt8.ofInt kind ::List.replicate (L-s.length-1) 0:=by rw [hBB,Nat.add_sub_cancel];exact zhn hsl1 _
      rw [←hBB] at hB
      have hps:off (yb [] ((s.length:Int)).toNat ty5.sz)<(zw (List.replicate (L+16) 0) (off []) (List.take (min s.length (L+16)) s)).length:=by
        have:=congrArg List.length hB
        rw [List.length_set] at this
        rw [hix];omega
      have hhl:=zek 23 ((L+16:Nat):Int)
      have hAl:(yx aw akey (ncF aiv am) (hdF 23 ((L+16:Nat):Int)) (BB.take (L+16-16))).length=L+16:=by
        rw [zb8,List.length_append,za2,xg,List.length_take,hBl];omega
      have hpn:L+16=BB.length∧16≤L+16∧zj8 aw akey (ncF aiv am) (hdF 23 ((L+16:Nat):Int)) (((L+16:Nat):Int)+0-16):=⟨hBl.symm,by omega,hky,by rw [hnl,hiv],by omega,by omega⟩
      rw [←hBt] at h
      repeat ((conv=>whnf);first|refine zo ?_|refine zf ?_|refine zg ?_|refine zb ?_|refine zr (by first|exact dk|(rw [dk];rfl)) ?_|refine zi (by first|exact dk|(rw [dk];rfl)) ?_|refine zj (by first|exact dk|(rw [dk];rfl)) ?_)
      conv=>whnf
      rw [hL,hLt]
      refine za ?_
      rw [hB]
      have hpo:off []+(L+16)≤(yx aw akey (ncF aiv am) (hdF 23 ((L+16:Nat):Int)) (BB.take (L+16-16))).length:=by rw [hAl];show 0+_≤_;omega
      have hte:List.take (L+16) (List.drop (off []) (yx aw akey (ncF aiv am) (hdF 23 ((L+16:Nat):Int)) (BB.take (L+16-16))))=yx aw akey (ncF aiv am) (hdF 23 ((L+16:Nat):Int)) (BB.take (L+16-16)):=List.take_of_length_le (Nat.le_of_eq hAl)
      refine za ?_
      rw [hte]
      refine za ?_
      conv=>whnf
      exact zh [0,1] h
     ·have h:=hf (decide_eq_false fun hh=>hl hh.2)
      repeat ((conv=>whnf);first|refine zo ?_|refine zf ?_|refine zg ?_|refine zb ?_|refine zr (by first|exact dk|(rw [dk];rfl)) ?_|refine zi (by first|exact dk|(rw [dk];rfl)) ?_|refine zj (by first|exact dk|(rw [dk];rfl)) ?_)
      conv=>whnf
      exact zh [0,1] h
    ·have dk:=decide_eq_false hk
     have h:=hf (decide_eq_false fun hh=>hk hh.1)
     repeat ((conv=>whnf);first|refine zo ?_|refine zf ?_|refine zg ?_|refine zb ?_|refine zr (by first|exact dk|(rw [dk];rfl)) ?_|refine zi (by first|exact dk|(rw [dk];rfl)) ?_|refine zj (by first|exact dk|(rw [dk];rfl)) ?_)
     conv=>whnf
     exact zh [0,1] h
   ·rename_i kind s t0 p held f tka aw akey aiv am tkb bw bkey biv bm
    obtain ⟨⟨hok,hp0,hp1,hs⟩,h⟩:=zm h
    obtain ⟨ht,hf⟩:=zt h
    by_cases hk:yu kind
    ·have dk:=decide_eq_true hk
     by_cases hl:s.length≤16384
     ·have h:=ht (decide_eq_true ⟨hk,hl⟩)
      have hky:=zfs hok
      obtain ⟨hw,hkl,hiv,hm0,hm1⟩:=hok
      have hnl:=zh4 aiv am
      have hin:0≤(s.length:Int)∧(s.length:Int)≤16384∧0≤p∧p≤16384:=⟨by omega,by omega,hp0,hp1⟩
      obtain ⟨hi1,hi2⟩:=zp8 (p:=p) (n:=(s.length:Int)) (by omega) (by omega) hp0
      obtain ⟨L,hL⟩: ∃L:Nat,inL p (s.length:Int)=(L:Int):=⟨_,(Int.toNat_of_nonneg (by omega)).symm⟩
      have hLn:(inL p (s.length:Int)).toNat=L:=by rw [hL];exact Int.toNat_natCast _
      unfold zas zf3 at h
      have hcast:(L:Int)+16=((L+16:Nat):Int):=by omega
      rw [hLn,hL,hcast] at h
      have hLt:((L:Int)+16).toNat=L+16:=by omega
      have hix:off (yb [] ((s.length:Int)).toNat ty5.sz)=s.length:=by rw [zy];show 0+((s.length:Int)).toNat*1=_;omega
      have hsl1:s.length+1≤L:=by omega
      have hB:=zmm (L:=L) (s:=s) hsl1 (UInt8.ofInt kind) hix
      obtain ⟨BB,hBB⟩: ∃BB,BB=s++UInt8.ofInt kind ::List.replicate (L+16-s.length-1) 0:=⟨_,rfl⟩
      have hBl:BB.length=L+16:=by rw [hBB,List.length_append,List.length_cons,List.length_replicate];omega
      have hBt:BB.take (L+16-16)=s++UInt8.ofInt kind ::List.replicate (L-s.length-1) 0:=by rw [hBB,Nat.add_sub_cancel];exact zhn hsl1 _
      rw [←hBB] at hB
      have hps:off (yb [] ((s.length:Int)).toNat ty5.sz)<(zw (List.replicate (L+16) 0) (off []) (List.take (min s.length (L+16)) s)).length:=by
        have:=congrArg List.length hB
        rw [List.length_set] at this
        rw [hix];omega
      have hhl:=zek 23 ((L+16:Nat):Int)
      have hAl:(yx aw akey (ncF aiv am) (hdF 23 ((L+16:Nat):Int)) (BB.take (L+16-16))).length=L+16:=by
        rw [zb8,List.length_append,za2,xg,List.length_take,hBl];omega
      have hpn:L+16=BB.length∧16≤L+16∧zj8 aw akey (ncF aiv am) (hdF 23 ((L+16:Nat):Int)) (((L+16:Nat):Int)+0-16):=⟨hBl.symm,by omega,hky,by rw [hnl,hiv],by omega,by omega⟩
      rw [←hBt] at h
      repeat ((conv=>whnf);first|refine zo ?_|refine zf ?_|refine zg ?_|refine zb ?_|refine zr (by first|exact dk|(rw [dk];rfl)) ?_|refine zi (by first|exact dk|(rw [dk];rfl)) ?_|refine zj (by first|exact dk|(rw [dk];rfl)) ?_)
      conv=>whnf
      rw [hL,hLt]
      refine za ?_
      rw [hB]
      have hpo:off []+(L+16)≤(yx aw akey (ncF aiv am) (hdF 23 ((L+16:Nat):Int)) (BB.take (L+16-16))).length:=by rw [hAl];show 0+_≤_;omega
      have hte:List.take (L+16) (List.drop (off []) (yx aw akey (ncF aiv am) (hdF 23 ((L+16:Nat):Int)) (BB.take (L+16-16))))=yx aw akey (ncF aiv am) (hdF 23 ((L+16:Nat):Int)) (BB.take (L+16-16)):=List.take_of_length_le (Nat.le_of_eq hAl)
      refine za ?_
      rw [hte]
      refine za ?_
      conv=>whnf
      exact zh [0,1,2] h
     ·have h:=hf (decide_eq_false fun hh=>hl hh.2)
      repeat ((conv=>whnf);first|refine zo ?_|refine zf ?_|refine zg ?_|refine zb ?_|refine zr (by first|exact dk|(rw [dk];rfl)) ?_|refine zi (by first|exact dk|(rw [dk];rfl)) ?_|refine zj (by first|exact dk|(rw [dk];rfl)) ?_)
      conv=>whnf
      exact zh [0,1,2] h
    ·have dk:=decide_eq_false hk
     have h:=hf (decide_eq_false fun hh=>hk hh.1)
     repeat ((conv=>whnf);first|refine zo ?_|refine zf ?_|refine zg ?_|refine zb ?_|refine zr (by first|exact dk|(rw [dk];rfl)) ?_|refine zi (by first|exact dk|(rw [dk];rfl)) ?_|refine zj (by first|exact dk|(rw [dk];rfl)) ?_)
     conv=>whnf
     exact zh [0,1,2] h
   ·exact h.elim
def zo2:Spec:=fun args hp K=>match args,hp with
  | [.ptr 0 0 0 [],.int kind,.str s],[.mk t0 [.int p,.nilptr,.nilptr,.str held,.int f]]=>Pre (s.length≤140737488351232) (zv (decide (yu kind∧s.length≤16384)) (K (.tup [.str (hdF kind s.length++s),.int 0]) [.mk t0 [.int p,.nilptr,.nilptr,.str held,.int f]]) (K (.tup [.str [],.int 2100]) [.mk t0 [.int p,.nilptr,.nilptr,.str held,.int f]]))
  | [.ptr 0 0 0 [],.int kind,.str s],[.mk t0 [.int p,.nilptr,.ptr 1 0 0 [],.str held,.int f],.mk tkb [.int bw,.str bkey,.str biv,.int bm]]=>Pre (s.length≤140737488351232) (zv (decide (yu kind∧s.length≤16384)) (K (.tup [.str (hdF kind s.length++s),.int 0]) [.mk t0 [.int p,.nilptr,.ptr 1 0 0 [],.str held,.int f],.mk tkb [.int bw,.str bkey,.str biv,.int bm]]) (K (.tup [.str [],.int 2100]) [.mk t0 [.int p,.nilptr,.ptr 1 0 0 [],.str held,.int f],.mk tkb [.int bw,.str bkey,.str biv,.int bm]]))
  | [.ptr 0 0 0 [],.int kind,.str s],[.mk t0 [.int p,.ptr 1 0 0 [],.nilptr,.str held,.int f],.mk tka [.int aw,.str akey,.str aiv,.int am]]=>Pre (zcu aw akey aiv am∧0≤p∧p≤16384∧s.length≤140737488351232) (zv (decide (yu kind∧s.length≤16384)) (K (.tup [.str (zas p aw akey aiv am kind s),.int 0]) [.mk t0 [.int p,.ptr 1 0 0 [],.nilptr,.str held,.int f],.mk tka [.int aw,.str akey,.str aiv,.int (am+1)]]) (K (.tup [.str [],.int 2100]) [.mk t0 [.int p,.ptr 1 0 0 [],.nilptr,.str held,.int f],.mk tka [.int aw,.str akey,.str aiv,.int am]]))
  | [.ptr 0 0 0 [],.int kind,.str s],[.mk t0 [.int p,.ptr 1 0 0 [],.ptr 2 0 0 [],.str held,.int f],.mk tka [.int aw,.str akey,.str aiv,.int am],.mk tkb [.int bw,.str bkey,.str biv,.int bm]]=>Pre (zcu aw akey aiv am∧0≤p∧p≤16384∧s.length≤140737488351232) (zv (decide (yu kind∧s.length≤16384)) (K (.tup [.str (zas p aw akey aiv am kind s),.int 0]) [.mk t0 [.int p,.ptr 1 0 0 [],.ptr 2 0 0 [],.str held,.int f],.mk tka [.int aw,.str akey,.str aiv,.int (am+1)],.mk tkb [.int bw,.str bkey,.str biv,.int bm]]) (K (.tup [.str [],.int 2100]) [.mk t0 [.int p,.ptr 1 0 0 [],.ptr 2 0 0 [],.str held,.int f],.mk tka [.int aw,.str akey,.str aiv,.int am],.mk tkb [.int bw,.str bkey,.str biv,.int bm]]))
  |_,_=>False
set_option maxHeartbeats 4000000 in
theorem z44:zp prog 20 zo2:=by
  refine zn yw (zd z4a zl) rfl func20 rfl call20 (D:=ydh) ?_ ?_
  ·intro args hp K h
   unfold zo2 at h
   split at h
   ·exact Nat.le_of_ble_eq_true rfl
   ·exact Nat.le_of_ble_eq_true rfl
   ·exact Nat.le_of_ble_eq_true rfl
   ·exact Nat.le_of_ble_eq_true rfl
   ·exact h.elim
  ·intro args hp K h
   unfold zo2 at h
   split at h
   ·rename_i kind s t0 p held f
    obtain ⟨hpre,h⟩:=zm h
    obtain ⟨ht,hf⟩:=zt h
    generalize e:decide (yu kind∧s.length≤16384)=c at ht hf
    cases c
    ·have h:=hf rfl
     repeat ((conv=>whnf);first|refine zo ?_|refine zf ?_|refine zg ?_|refine zb ?_|refine zr (by first|exact e) ?_|refine zi (by first|exact e) ?_|refine zj (by first|exact e) ?_)
     conv=>whnf
     exact zh [0] h
    ·have h:=ht rfl
     repeat ((conv=>whnf);first|refine zo ?_|refine zf ?_|refine zg ?_|refine zb ?_|refine zr (by first|exact e) ?_|refine zi (by first|exact e) ?_|refine zj (by first|exact e) ?_)
     conv=>whnf
     exact zh [0] h
   ·rename_i kind s t0 p held f tkb bw bkey biv bm
    obtain ⟨hpre,h⟩:=zm h
    obtain ⟨ht,hf⟩:=zt h
    generalize e:decide (yu kind∧s.length≤16384)=c at ht hf
    cases c
    ·have h:=hf rfl
     repeat ((conv=>whnf);first|refine zo ?_|refine zf ?_|refine zg ?_|refine zb ?_|refine zr (by first|exact e) ?_|refine zi (by first|exact e) ?_|refine zj (by first|exact e) ?_)
     conv=>whnf
     exact zh [0,1] h
    ·have h:=ht rfl
     repeat ((conv=>whnf);first|refine zo ?_|refine zf ?_|refine zg ?_|refine zb ?_|refine zr (by first|exact e) ?_|refine zi (by first|exact e) ?_|refine zj (by first|exact e) ?_)
     conv=>whnf
     exact zh [0,1] h
   ·rename_i kind s t0 p held f tka aw akey aiv am
    obtain ⟨hpre,h⟩:=zm h
    obtain ⟨ht,hf⟩:=zt h
    generalize e:decide (yu kind∧s.length≤16384)=c at ht hf
    cases c
    ·have h:=hf rfl
     repeat ((conv=>whnf);first|refine zo ?_|refine zf ?_|refine zg ?_|refine zb ?_|refine zr (by first|exact e) ?_|refine zi (by first|exact e) ?_|refine zj (by first|exact e) ?_)
     conv=>whnf
     exact zh [0,1] h
    ·have h:=ht rfl
     repeat ((conv=>whnf);first|refine zo ?_|refine zf ?_|refine zg ?_|refine zb ?_|refine zr (by first|exact e) ?_|refine zi (by first|exact e) ?_|refine zj (by first|exact e) ?_)
     conv=>whnf
     exact zh [0,1] h
   ·rename_i kind s t0 p held f tka aw akey aiv am tkb bw bkey biv bm
    obtain ⟨hpre,h⟩:=zm h
    obtain ⟨ht,hf⟩:=zt h
    generalize e:decide (yu kind∧s.length≤16384)=c at ht hf
    cases c
    ·have h:=hf rfl
     repeat ((conv=>whnf);first|refine zo ?_|refine zf ?_|refine zg ?_|refine zb ?_|refine zr (by first|exact e) ?_|refine zi (by first|exact e) ?_|refine zj (by first|exact e) ?_)
     conv=>whnf
     exact zh [0,1,2] h
    ·have h:=ht rfl
     repeat ((conv=>whnf);first|refine zo ?_|refine zf ?_|refine zg ?_|refine zb ?_|refine zr (by first|exact e) ?_|refine zi (by first|exact e) ?_|refine zj (by first|exact e) ?_)
     conv=>whnf
     exact zh [0,1,2] h
   ·exact h.elim
end Go.Sym.Z

namespace Go.Sym.Z
open Go Go.Proofs.Tryz Go.Sym.Lp Go.Sym.Cha Go.Sym.Sha Go.Sym.Hk
set_option maxRecDepth 100000
attribute [local irreducible] zab exF kyF ivF yx xe yi inL ncF
def ycc:List (Nat×List PStep):= [(1,[⟨0,[]⟩,⟨1,[]⟩,⟨2,[]⟩,⟨3,[]⟩,⟨4,[0,1,2,3]⟩,⟨5,[0,1,2,3]⟩,⟨6,[0,1,2,3]⟩,⟨7,[0,1,2,3]⟩,⟨8,[0,1,2,3,4,5,6,7]⟩,⟨10,[0,1,2,3,4,5,6,7,8]⟩,⟨11,[0,1,2,3,4,5,6,7,8,10]⟩,⟨9,[0,1,2,3,4,5,6,7,10,11]⟩,⟨12,[]⟩,⟨13,[]⟩,⟨14,[]⟩,⟨15,[14]⟩,⟨16,[15]⟩,⟨17,[]⟩])]
def ycv:List (Nat×List PStep):= []
def yac:List (Nat×List PStep):= []
def ycd:List (Nat×List PStep):= []
def zur:Spec:=fun args hp K=>match args,hp with
  | [.ptr 0 0 0 [],.str h,.str s],[.mk t [.int w,.str key,.str iv,.int m]]=>Pre (zcu w key iv m∧h.length≤100∧s.length≤20000)
      (zv (decide (16≤s.length∧xe w key (ncF iv m) h (s.take (s.length-16))=s.drop (s.length-16)))
        (K (.tup [.str (yi w key (ncF iv m) (s.take (s.length-16))),.bool true]) [.mk t [.int w,.str key,.str iv,.int (m+1)]])
        (K (.tup [.str [],.bool false]) [.mk t [.int w,.str key,.str iv,.int m]]))
  |_,_=>False
theorem z5f:zp prog 95 zur:=by
  refine zn yw (zd zks (zd z4b zl)) rfl func95 rfl call95 (D:=ycc) ?_ ?_
  ·intro args hp K h
   unfold zur at h
   split at h
   ·exact Nat.le_of_ble_eq_true rfl
   ·exact h.elim
  ·intro args hp K h
   unfold zur at h
   split at h
   ·rename_i h' s t w key iv m
    obtain ⟨⟨hok,hh,hs⟩,h⟩:=zm h
    obtain ⟨ht,hf⟩:=zt h
    have hky:=zfs hok
    obtain ⟨hw,hkl,hiv,hm0,hm1⟩:=hok
    have hnl:=zh4 iv m
    have hd:decide (zd5 w key.length∧(ncF iv m).length=12∧h'.length≤65536∧(s.length:Int)-16≤65536)=true:=decide_eq_true ⟨hky,by rw [hnl,hiv],by omega,by omega⟩
    generalize e:decide (16≤s.length∧xe w key (ncF iv m) h' (s.take (s.length-16))=s.drop (s.length-16))=c at ht hf
    cases c
    ·have h:=hf rfl
     repeat ((conv=>whnf);first|refine zo ?_|refine zf ?_|refine zg ?_|refine zb ?_|refine zr (by first|exact hd|exact e) ?_|refine zi (by first|exact hd|exact e) ?_|refine zj (by first|exact hd|exact e) ?_)
     conv=>whnf
     exact zh [0] h
    ·have h:=ht rfl
     repeat ((conv=>whnf);first|refine zo ?_|refine zf ?_|refine zg ?_|refine zb ?_|refine zr (by first|exact hd|exact e) ?_|refine zi (by first|exact hd|exact e) ?_|refine zj (by first|exact hd|exact e) ?_)
     conv=>whnf
     exact zh [0] h
   ·exact h.elim
def hK (h:List UInt8):Int:=((h.getD 0 0).toNat:Int)
def hN (h:List UInt8):Int:=256*((h.getD 3 0).toNat:Int)+((h.getD 4 0).toNat:Int)
def hA (h:List UInt8) (keyed:Bool):Int:=
  if yu (hK h) then (if (if keyed=true∧hK h=23 then 16640 else 16384)<hN h then 22 else if keyed=true∧(hK h=21∨hK h=22) then 10 else-1) else 10
def zyu:Spec:=fun args hp K=>match args,hp with
  | [.str h,.bool keyed],[]=>Pre (5≤h.length∧h.length<9223372036854775808)
      (zv (decide (hA h keyed= -1)) (K (.tup [.int (hK h),.int (hN h),.int (-1)]) []) (K (.tup [.int 0,.int 0,.int (hA h keyed)]) []))
  |_,_=>False
set_option maxHeartbeats 4000000 in
theorem z1m:zp prog 69 zyu:=by
  refine zn yw (zd z9c (zd zo0 zl)) rfl func69 rfl call69 (D:=ycv) ?_ ?_
  ·intro args hp K h
   unfold zyu at h
   split at h
   ·exact Nat.le_of_ble_eq_true rfl
   ·exact h.elim
  ·intro args hp K h
   unfold zyu at h
   split at h
   ·rename_i x keyed
    obtain ⟨⟨hl,hl2⟩,h⟩:=zm h
    obtain ⟨ht,hf⟩:=zt h
    have hpu:0≤(3:Int)∧3+2≤(x.length:Int)∧x.length<9223372036854775808:=⟨by decide,by omega,hl2⟩
    have hkd:hK x=((x.getD (Int.toNat 0) 0).toNat:Int):=rfl
    have hnd:hN x=256*((x.getD (Int.toNat 3) 0).toNat:Int)+((x.getD (Int.toNat 3+1) 0).toNat:Int):=rfl
    have b0:=(x.getD (Int.toNat 0) 0).toNat_lt
    have b3:=(x.getD (Int.toNat 3) 0).toNat_lt
    have b4:=(x.getD (Int.toNat 3+1) 0).toNat_lt
    by_cases h1:yu (hK x)
    ·have d1:decide (yu ((x.getD (Int.toNat 0) 0).toNat:Int))=true:=decide_eq_true h1
     have h1':=h1
     unfold yu at h1'
     by_cases hk:keyed=true
     ·subst hk
      by_cases h23:hK x=23
      ·have d21:decide (((x.getD (Int.toNat 0) 0).toNat:Int)=21)=false:=decide_eq_false (by omega)
       have d22:decide (((x.getD (Int.toNat 0) 0).toNat:Int)=22)=false:=decide_eq_false (by omega)
       by_cases h2:16640<hN x
       ·have hv:hA x true=22:=by unfold hA;rw [if_pos h1,if_pos (show true=true∧hK x=23 from ⟨rfl,h23⟩),if_pos h2]
        have h:=hf (decide_eq_false (by rw [hv];decide))
        rw [hv] at h
        repeat ((conv=>whnf);first|refine zo ?_|refine zf ?_|refine zg ?_|refine zb ?_|refine zr (by first|exact d1|(rw [d1];rfl)|exact d21|(rw [d21];rfl)|exact d22|(rw [d22];rfl)) ?_|refine zi (by first|exact d1|(rw [d1];rfl)|exact d21|(rw [d21];rfl)|exact d22|(rw [d22];rfl)) ?_|refine zj (by first|exact d1|(rw [d1];rfl)|exact d21|(rw [d21];rfl)|exact d22|(rw [d22];rfl)) ?_)
        conv=>whnf
        exact zh [] h
       ·have hv:hA x true= -1:=by unfold hA;rw [if_pos h1,if_pos (show true=true∧hK x=23 from ⟨rfl,h23⟩),if_neg h2,if_neg (fun h=>by omega)]
        have h:=ht (decide_eq_true hv)
        repeat ((conv=>whnf);first|refine zo ?_|refine zf ?_|refine zg ?_|refine zb ?_|refine zr (by first|exact d1|(rw [d1];rfl)|exact d21|(rw [d21];rfl)|exact d22|(rw [d22];rfl)) ?_|refine zi (by first|exact d1|(rw [d1];rfl)|exact d21|(rw [d21];rfl)|exact d22|(rw [d22];rfl)) ?_|refine zj (by first|exact d1|(rw [d1];rfl)|exact d21|(rw [d21];rfl)|exact d22|(rw [d22];rfl)) ?_)
        conv=>whnf
        exact zh [] h
      ·by_cases h2:16384<hN x
       ·have hv:hA x true=22:=by unfold hA;rw [if_pos h1,if_neg (show ¬(true=true∧hK x=23) from fun h=>h23 h.2),if_pos h2]
        have h:=hf (decide_eq_false (by rw [hv];decide))
        rw [hv] at h
        repeat ((conv=>whnf);first|refine zo ?_|refine zf ?_|refine zg ?_|refine zb ?_|refine zr (by first|exact d1|(rw [d1];rfl)|exact d21|(rw [d21];rfl)|exact d22|(rw [d22];rfl)) ?_|refine zi (by first|exact d1|(rw [d1];rfl)|exact d21|(rw [d21];rfl)|exact d22|(rw [d22];rfl)) ?_|refine zj (by first|exact d1|(rw [d1];rfl)|exact d21|(rw [d21];rfl)|exact d22|(rw [d22];rfl)) ?_)
        conv=>whnf
        exact zh [] h
       ·by_cases h21:hK x=21
        ·have d21:decide (((x.getD (Int.toNat 0) 0).toNat:Int)=21)=true:=decide_eq_true h21
         have hv:hA x true=10:=by unfold hA;rw [if_pos h1,if_neg (show ¬(true=true∧hK x=23) from fun h=>h23 h.2),if_neg h2,if_pos (show true=true∧(hK x=21∨hK x=22) from ⟨rfl,.inl h21⟩)]
         have h:=hf (decide_eq_false (by rw [hv];decide))
         rw [hv] at h
         repeat ((conv=>whnf);first|refine zo ?_|refine zf ?_|refine zg ?_|refine zb ?_|refine zr (by first|exact d1|(rw [d1];rfl)|exact d21|(rw [d21];rfl)|exact d22|(rw [d22];rfl)) ?_|refine zi (by first|exact d1|(rw [d1];rfl)|exact d21|(rw [d21];rfl)|exact d22|(rw [d22];rfl)) ?_|refine zj (by first|exact d1|(rw [d1];rfl)|exact d21|(rw [d21];rfl)|exact d22|(rw [d22];rfl)) ?_)
         conv=>whnf
         exact zh [] h
        ·have d21:decide (((x.getD (Int.toNat 0) 0).toNat:Int)=21)=false:=decide_eq_false (by omega)
         by_cases h22:hK x=22
         ·have d22:decide (((x.getD (Int.toNat 0) 0).toNat:Int)=22)=true:=decide_eq_true h22
          have hv:hA x true=10:=by unfold hA;rw [if_pos h1,if_neg (show ¬(true=true∧hK x=23) from fun h=>h23 h.2),if_neg h2,if_pos (show true=true∧(hK x=21∨hK x=22) from ⟨rfl,.inr h22⟩)]
          have h:=hf (decide_eq_false (by rw [hv];decide))
          rw [hv] at h
          repeat ((conv=>whnf);first|refine zo ?_|refine zf ?_|refine zg ?_|refine zb ?_|refine zr (by first|exact d1|(rw [d1];rfl)|exact d21|(rw [d21];rfl)|exact d22|(rw [d22];rfl)) ?_|refine zi (by first|exact d1|(rw [d1];rfl)|exact d21|(rw [d21];rfl)|exact d22|(rw [d22];rfl)) ?_|refine zj (by first|exact d1|(rw [d1];rfl)|exact d21|(rw [d21];rfl)|exact d22|(rw [d22];rfl)) ?_)
          conv=>whnf
          exact zh [] h
         ·have d22:decide (((x.getD (Int.toNat 0) 0).toNat:Int)=22)=false:=decide_eq_false (by omega)
          have hv:hA x true= -1:=by unfold hA;rw [if_pos h1,if_neg (show ¬(true=true∧hK x=23) from fun h=>h23 h.2),if_neg h2,if_neg (fun h=>by omega)]
          have h:=ht (decide_eq_true hv)
          repeat ((conv=>whnf);first|refine zo ?_|refine zf ?_|refine zg ?_|refine zb ?_|refine zr (by first|exact d1|(rw [d1];rfl)|exact d21|(rw [d21];rfl)|exact d22|(rw [d22];rfl)) ?_|refine zi (by first|exact d1|(rw [d1];rfl)|exact d21|(rw [d21];rfl)|exact d22|(rw [d22];rfl)) ?_|refine zj (by first|exact d1|(rw [d1];rfl)|exact d21|(rw [d21];rfl)|exact d22|(rw [d22];rfl)) ?_)
          conv=>whnf
          exact zh [] h
     ·have hk':keyed=false:=by cases keyed;rfl;exact absurd rfl hk
      subst hk'
      by_cases h2:16384<hN x
      ·have hv:hA x false=22:=by unfold hA;rw [if_pos h1,if_neg (show ¬(false=true∧hK x=23) from fun h=>Bool.noConfusion h.1),if_pos h2]
       have h:=hf (decide_eq_false (by rw [hv];decide))
       rw [hv] at h
       repeat ((conv=>whnf);first|refine zo ?_|refine zf ?_|refine zg ?_|refine zb ?_|refine zr (by first|exact d1|(rw [d1];rfl)|exact d21|(rw [d21];rfl)|exact d22|(rw [d22];rfl)) ?_|refine zi (by first|exact d1|(rw [d1];rfl)|exact d21|(rw [d21];rfl)|exact d22|(rw [d22];rfl)) ?_|refine zj (by first|exact d1|(rw [d1];rfl)|exact d21|(rw [d21];rfl)|exact d22|(rw [d22];rfl)) ?_)
       conv=>whnf
       exact zh [] h
      ·have hv:hA x false= -1:=by unfold hA;rw [if_pos h1,if_neg (show ¬(false=true∧hK x=23) from fun h=>Bool.noConfusion h.1),if_neg h2,if_neg (fun h=>Bool.noConfusion h.1)]
       have h:=ht (decide_eq_true hv)
       repeat ((conv=>whnf);first|refine zo ?_|refine zf ?_|refine zg ?_|refine zb ?_|refine zr (by first|exact d1|(rw [d1];rfl)|exact d21|(rw [d21];rfl)|exact d22|(rw [d22];rfl)) ?_|refine zi (by first|exact d1|(rw [d1];rfl)|exact d21|(rw [d21];rfl)|exact d22|(rw [d22];rfl)) ?_|refine zj (by first|exact d1|(rw [d1];rfl)|exact d21|(rw [d21];rfl)|exact d22|(rw [d22];rfl)) ?_)
       conv=>whnf
       exact zh [] h
    ·have d1:decide (yu ((x.getD (Int.toNat 0) 0).toNat:Int))=false:=decide_eq_false h1
     have hv:hA x keyed=10:=by unfold hA;rw [if_neg h1]
     have hz:=hf (decide_eq_false (by rw [hv];decide))
     rw [hv] at hz
     have h1':=h1
     unfold yu at h1'
     clear hv ht hf
     cases keyed
     ·repeat ((conv=>whnf);first|refine zo ?_|refine zf ?_|refine zg ?_|refine zb ?_|refine zr (by first|exact d1|(rw [d1];rfl)) ?_|refine zi (by first|exact d1|(rw [d1];rfl)) ?_|refine zj (by first|exact d1|(rw [d1];rfl)) ?_)
      conv=>whnf
      exact zh [] hz
     ·repeat ((conv=>whnf);first|refine zo ?_|refine zf ?_|refine zg ?_|refine zb ?_|refine zr (by first|exact d1|(rw [d1];rfl)) ?_|refine zi (by first|exact d1|(rw [d1];rfl)) ?_|refine zj (by first|exact d1|(rw [d1];rfl)) ?_)
      conv=>whnf
      exact zh [] hz
   ·exact h.elim
def clS:Spec:=fun args hp K=>match args,hp with
  | [.int i,.ptr 0 0 0 []],[.mk t [.str p]]=>Pre (0≤i∧i<(p.length:Int)) (K (.u8 (p.getD i.toNat 0)) [.mk t [.str p]])
  |_,_=>False
theorem yc4:zp prog 97 clS:=by
  refine zn yw zl rfl func97 rfl call97 (D:=ycd) ?_ ?_
  ·intro args hp K h
   unfold clS at h
   split at h
   ·exact Nat.le_of_ble_eq_true rfl
   ·exact h.elim
  ·intro args hp K h
   unfold clS at h
   split at h
   ·rename_i i t p
    obtain ⟨⟨h0,h1⟩,h⟩:=zm h
    refine za ?_
    exact zh [0] h
   ·exact h.elim
def lnz (p:List UInt8):Nat→Nat
  |0=>0
  |n+1=>if p.getD n 0=0 then lnz p n else n+1
theorem zps (p:List UInt8): ∀n,lnz p n≤n
  |0=>Nat.le_refl _
  |n+1=>by
   simp only [lnz]
   split
   ·exact Nat.le_succ_of_le (zps p n)
   ·exact Nat.le_refl _
def iK (p:List UInt8):Int:=((p.getD (lnz p p.length-1) 0).toNat:Int)
def iA (p:List UInt8):Int:=if 16385<p.length then 22 else if lnz p p.length=0 then 10 else if iK p=21∨iK p=22∨iK p=23 then-1 else 10
structure Zs (p:List UInt8) where
  k:Nat
  hk:k≤p.length
  hz:lnz p p.length=lnz p k
def zts:Spec:=fun args hp K=>match args,hp with
  | [.func 97 [.ptr 0 0 0 []],.int n],[.mk t [.str p]]=>Pre (n=(p.length:Int)∧p.length≤1000000)
      (zv (decide (iA p= -1)) (K (.tup [.int (iK p),.int ((lnz p p.length-1:Nat):Int),.int (-1)]) [.mk t [.str p]]) (K (.tup [.int 0,.int 0,.int (iA p)]) [.mk t [.str p]]))
  |_,_=>False
theorem z43:zp prog 96 zts:=by
  refine zn yw (zd yc4 zl) rfl func96 rfl call96 (D:=yac) ?_ ?_
  ·intro args hp K h
   unfold zts at h
   split at h
   ·exact Nat.le_of_ble_eq_true rfl
   ·exact h.elim
  ·intro args hp K h
   unfold zts at h
   split at h
   ·rename_i n t p
    obtain ⟨⟨hn,hl⟩,h⟩:=zm h
    obtain ⟨ht,hf⟩:=zt h
    by_cases h1:16385<p.length
    ·have hv:iA p=22:=by unfold iA;rw [if_pos h1]
     have h:=hf (decide_eq_false (by rw [hv];decide))
     rw [hv] at h
     refine za ?_
     exact zh [0] h
    ·refine za ?_
     refine zz (Zs p) (fun z=>⟨[(0,.func 97 [.ptr 0 0 0 []]),(1,.int (z.k:Nat))],[.mk t [.str p]]⟩) (fun z=>z.k) ⟨p.length,Nat.le_refl _,rfl⟩ [0] ?_ ?_
     ·repeat ((conv=>whnf);refine zb ?_)
      conv=>whnf
      exact zx (congrArg SV.int hn)
     ·intro z
      have hzk:=z.hk
      have hzz:=z.hz
      by_cases h0:0<z.k
      ·have hpi:0≤((z.k:Nat):Int)-1∧((z.k:Nat):Int)-1<(p.length:Int):=⟨by omega,by omega⟩
       have hix:(((z.k:Nat):Int)-1).toNat=z.k-1:=by omega
       obtain ⟨j,hj⟩: ∃j,z.k=j+1:=⟨z.k-1,by omega⟩
       by_cases hb:p.getD (z.k-1) 0=0
       ·have hd:decide (p.getD (((z.k:Nat):Int)-1).toNat 0=UInt8.ofNat 0)=true:=decide_eq_true (by rw [hix];exact hb)
        have hnx:lnz p p.length=lnz p (z.k-1):=by
          rw [hzz,hj];rw [hj,Nat.add_sub_cancel] at hb;simp only [lnz];rw [if_pos hb];rfl
        repeat ((conv=>whnf);first|refine zo ?_|refine zf ?_|refine zg ?_|refine zb ?_|refine zr (by first|exact hd|(rw [hd];rfl)) ?_|refine zi (by first|exact hd|(rw [hd];rfl)) ?_|refine zj (by first|exact hd|(rw [hd];rfl)) ?_)
        conv=>whnf
        refine ⟨⟨z.k-1,by omega,hnx⟩,[0],by show z.k-1<z.k;omega,?_⟩
        repeat ((conv=>whnf);refine zb ?_)
        conv=>whnf
        exact zx (congrArg SV.int (show ((z.k:Nat):Int)-1=((z.k-1:Nat):Int) by omega))
       ·have hd:decide (p.getD (((z.k:Nat):Int)-1).toNat 0=UInt8.ofNat 0)=false:=decide_eq_false (by rw [hix];exact hb)
        have hlz:lnz p p.length=z.k:=by
          rw [hzz,hj];rw [hj,Nat.add_sub_cancel] at hb;simp only [lnz];rw [if_neg hb]
        have hik:iK p=((p.getD (((z.k:Nat):Int)-1).toNat 0).toNat:Int):=by unfold iK;rw [hlz,hix]
        have hkm:((lnz p p.length-1:Nat):Int)=((z.k:Nat):Int)-1:=by rw [hlz];omega
        by_cases hg:iK p=21∨iK p=22∨iK p=23
        ·have hv:iA p= -1:=by unfold iA;rw [if_neg h1,if_neg (by omega),if_pos hg]
         have h:=ht (decide_eq_true hv)
         rw [hkm,hik] at h
         rcases hg with hg|hg|hg
         ·repeat ((conv=>whnf);first|refine zo ?_|refine zf ?_|refine zg ?_|refine zb ?_|refine zr (by first|exact hd|(rw [hd];rfl)) ?_|refine zi (by first|exact hd|(rw [hd];rfl)) ?_|refine zj (by first|exact hd|(rw [hd];rfl)) ?_)
          conv=>whnf
          exact zh [0] h
         ·repeat ((conv=>whnf);first|refine zo ?_|refine zf ?_|refine zg ?_|refine zb ?_|refine zr (by first|exact hd|(rw [hd];rfl)) ?_|refine zi (by first|exact hd|(rw [hd];rfl)) ?_|refine zj (by first|exact hd|(rw [hd];rfl)) ?_)
          conv=>whnf
          exact zh [0] h
         ·repeat ((conv=>whnf);first|refine zo ?_|refine zf ?_|refine zg ?_|refine zb ?_|refine zr (by first|exact hd|(rw [hd];rfl)) ?_|refine zi (by first|exact hd|(rw [hd];rfl)) ?_|refine zj (by first|exact hd|(rw [hd];rfl)) ?_)
          conv=>whnf
          exact zh [0] h
        ·have hv:iA p=10:=by unfold iA;rw [if_neg h1,if_neg (by omega),if_neg hg]
         have h:=hf (decide_eq_false (by rw [hv];decide))
         rw [hv] at h
         repeat ((conv=>whnf);first|refine zo ?_|refine zf ?_|refine zg ?_|refine zb ?_|refine zr (by first|exact hd|(rw [hd];rfl)) ?_|refine zi (by first|exact hd|(rw [hd];rfl)) ?_|refine zj (by first|exact hd|(rw [hd];rfl)) ?_)
         conv=>whnf
         exact zh [0] h
      ·have hlz:lnz p p.length=0:=by rw [hzz,show z.k=0 by omega];rfl
       have hv:iA p=10:=by unfold iA;rw [if_neg h1,if_pos hlz]
       have h:=hf (decide_eq_false (by rw [hv];decide))
       rw [hv] at h
       refine za ?_
       exact zh [0] h
   ·exact h.elim
end Go.Sym.Z

namespace Go.Sym.Z
open Go Go.Proofs.Tryz Go.Sym.Lp Go.Sym.Cha Go.Sym.Sha Go.Sym.Hk
set_option maxRecDepth 100000
attribute [local irreducible] zab exF kyF ivF yx xe yi inL ncF lnz iA
def ydn:List (Nat×List PStep):= []
def z7a:List (Nat×TyI):= [(3,ty3),(4,ty4),(5,ty5),(9,ty9),(48,zcp),(51,zco),(113,x4),(99,x3),(103,zck),(68,zgw),(70,zg0),(104,zcj),(74,zi4),(23,zjr),(43,zgz),(143,zet)]
theorem zxy: ∀t i,y3 z7a t=some i→yp prog t i:=(zc ty3_ok (zc zbm (zc zbe (zc ty9_ok (zc zak (zc zam (zc zai (zc za7 (zc zdq (zc zgq (zc zgn (zc zds (zc zqy (zc zp5 (zc zgo (zc zrm x1))))))))))))))))
def ztv:Spec:=fun args hp K=>match args,hp with
  | [.ptr 0 0 0 [],.str h,.int kind,.str s],[.mk t0 [.int p,.nilptr,.nilptr,.str held,.int f]]=>K (.tup [.agg [.int kind,.str s],.int (-1)]) [.mk t0 [.int p,.nilptr,.nilptr,.str held,.int f]]
  | [.ptr 0 0 0 [],.str h,.int kind,.str s],[.mk t0 [.int p,.ptr 1 0 0 [],.nilptr,.str held,.int f],.mk tka [.int aw,.str akey,.str aiv,.int am]]=>K (.tup [.agg [.int kind,.str s],.int (-1)]) [.mk t0 [.int p,.ptr 1 0 0 [],.nilptr,.str held,.int f],.mk tka [.int aw,.str akey,.str aiv,.int am]]
  | [.ptr 0 0 0 [],.str h,.int kind,.str s],[.mk t0 [.int p,.nilptr,.ptr 1 0 0 [],.str held,.int f],.mk tkb [.int bw,.str bkey,.str biv,.int bm]]=>Pre (zcu bw bkey biv bm∧h.length≤100∧s.length≤20000) (zv (decide (kind=20)) (K (.tup [.agg [.int kind,.str s],.int (-1)]) [.mk t0 [.int p,.nilptr,.ptr 1 0 0 [],.str held,.int f],.mk tkb [.int bw,.str bkey,.str biv,.int bm]]) (zv (decide (16≤s.length∧xe bw bkey (ncF biv bm) h (s.take (s.length-16))=s.drop (s.length-16))) (zv (decide (iA (yi bw bkey (ncF biv bm) (s.take (s.length-16)))= -1)) (K (.tup [.agg [.int (iK (yi bw bkey (ncF biv bm) (s.take (s.length-16)))),.str (((yi bw bkey (ncF biv bm) (s.take (s.length-16)))).take (lnz (yi bw bkey (ncF biv bm) (s.take (s.length-16))) (yi bw bkey (ncF biv bm) (s.take (s.length-16))).length-1))],.int (-1)]) [.mk t0 [.int p,.nilptr,.ptr 1 0 0 [],.str held,.int f],.mk tkb [.int bw,.str bkey,.str biv,.int (bm+1)]]) (K (.tup [.agg [.int 0,.str []],.int (iA (yi bw bkey (ncF biv bm) (s.take (s.length-16))))]) [.mk t0 [.int p,.nilptr,.ptr 1 0 0 [],.str held,.int f],.mk tkb [.int bw,.str bkey,.str biv,.int (bm+1)]])) (K (.tup [.agg [.int 0,.str []],.int 20]) [.mk t0 [.int p,.nilptr,.ptr 1 0 0 [],.str held,.int f],.mk tkb [.int bw,.str bkey,.str biv,.int bm]])))
  | [.ptr 0 0 0 [],.str h,.int kind,.str s],[.mk t0 [.int p,.ptr 1 0 0 [],.ptr 2 0 0 [],.str held,.int f],.mk tka [.int aw,.str akey,.str aiv,.int am],.mk tkb [.int bw,.str bkey,.str biv,.int bm]]=>Pre (zcu bw bkey biv bm∧h.length≤100∧s.length≤20000) (zv (decide (kind=20)) (K (.tup [.agg [.int kind,.str s],.int (-1)]) [.mk t0 [.int p,.ptr 1 0 0 [],.ptr 2 0 0 [],.str held,.int f],.mk tka [.int aw,.str akey,.str aiv,.int am],.mk tkb [.int bw,.str bkey,.str biv,.int bm]]) (zv (decide (16≤s.length∧xe bw bkey (ncF biv bm) h (s.take (s.length-16))=s.drop (s.length-16))) (zv (decide (iA (yi bw bkey (ncF biv bm) (s.take (s.length-16)))= -1)) (K (.tup [.agg [.int (iK (yi bw bkey (ncF biv bm) (s.take (s.length-16)))),.str (((yi bw bkey (ncF biv bm) (s.take (s.length-16)))).take (lnz (yi bw bkey (ncF biv bm) (s.take (s.length-16))) (yi bw bkey (ncF biv bm) (s.take (s.length-16))).length-1))],.int (-1)]) [.mk t0 [.int p,.ptr 1 0 0 [],.ptr 2 0 0 [],.str held,.int f],.mk tka [.int aw,.str akey,.str aiv,.int am],.mk tkb [.int bw,.str bkey,.str biv,.int (bm+1)]]) (K (.tup [.agg [.int 0,.str []],.int (iA (yi bw bkey (ncF biv bm) (s.take (s.length-16))))]) [.mk t0 [.int p,.ptr 1 0 0 [],.ptr 2 0 0 [],.str held,.int f],.mk tka [.int aw,.str akey,.str aiv,.int am],.mk tkb [.int bw,.str bkey,.str biv,.int (bm+1)]])) (K (.tup [.agg [.int 0,.str []],.int 20]) [.mk t0 [.int p,.ptr 1 0 0 [],.ptr 2 0 0 [],.str held,.int f],.mk tka [.int aw,.str akey,.str aiv,.int am],.mk tkb [.int bw,.str bkey,.str biv,.int bm]])))
  |_,_=>False
set_option maxHeartbeats 4000000 in
theorem z47:zp prog 70 ztv:=by
  refine zn zxy (zd z5f (zd z43 zl)) rfl func70 rfl call70 (D:=ydn) ?_ ?_
  ·intro args hp K h
   unfold ztv at h
   split at h
   ·exact Nat.le_of_ble_eq_true rfl
   ·exact Nat.le_of_ble_eq_true rfl
   ·exact Nat.le_of_ble_eq_true rfl
   ·exact Nat.le_of_ble_eq_true rfl
   ·exact h.elim
  ·intro args hp K h
   unfold ztv at h
   split at h
   ·rename_i h' kind s t0 p held f
    refine za ?_
    exact zh [0] h
   ·rename_i h' kind s t0 p held f tka aw akey aiv am
    refine za ?_
    exact zh [0,1] h
   ·rename_i h' kind s t0 p held f tkb bw bkey biv bm
    obtain ⟨hpre,h⟩:=zm h
    obtain ⟨ht,hf⟩:=zt h
    by_cases hk:kind=20
    ·have h:=ht (decide_eq_true hk)
     refine za ?_
     exact zh [0,1] h
    ·have h:=hf (decide_eq_false hk)
     obtain ⟨ht,hf⟩:=zt h
     generalize e:decide (16≤s.length∧xe bw bkey (ncF biv bm) h' (s.take (s.length-16))=s.drop (s.length-16))=c at ht hf
     cases c
     ·have h:=hf rfl
      repeat ((conv=>whnf);first|refine zo ?_|refine zf ?_|refine zg ?_|refine zb ?_|refine zr (by first|exact e) ?_|refine zi (by first|exact e) ?_|refine zj (by first|exact e) ?_)
      conv=>whnf
      exact zh [0,1] h
     ·have h:=ht rfl
      obtain ⟨ht,hf⟩:=zt h
      have hpl:(yi bw bkey (ncF biv bm) (s.take (s.length-16))).length≤20000:=by rw [xg,List.length_take];omega
      have hll:=zps (yi bw bkey (ncF biv bm) (s.take (s.length-16))) (yi bw bkey (ncF biv bm) (s.take (s.length-16))).length
      have hpi:((yi bw bkey (ncF biv bm) (s.take (s.length-16))).length:Int)=((yi bw bkey (ncF biv bm) (s.take (s.length-16))).length:Int)∧(yi bw bkey (ncF biv bm) (s.take (s.length-16))).length≤1000000:=⟨rfl,by omega⟩
      generalize e2:decide (iA (yi bw bkey (ncF biv bm) (s.take (s.length-16)))= -1)=c2 at ht hf
      cases c2
      ·have h:=hf rfl
       repeat ((conv=>whnf);first|refine zo ?_|refine zf ?_|refine zg ?_|refine zb ?_|refine zr (by first|exact e|exact e2) ?_|refine zi (by first|exact e|exact e2) ?_|refine zj (by first|exact e|exact e2) ?_)
       conv=>whnf
       exact zh [0,1] h
      ·have h:=ht rfl
       repeat ((conv=>whnf);first|refine zo ?_|refine zf ?_|refine zg ?_|refine zb ?_|refine zr (by first|exact e|exact e2) ?_|refine zi (by first|exact e|exact e2) ?_|refine zj (by first|exact e|exact e2) ?_)
       conv=>whnf
       exact zh [0,1] h
   ·rename_i h' kind s t0 p held f tka aw akey aiv am tkb bw bkey biv bm
    obtain ⟨hpre,h⟩:=zm h
    obtain ⟨ht,hf⟩:=zt h
    by_cases hk:kind=20
    ·have h:=ht (decide_eq_true hk)
     refine za ?_
     exact zh [0,1,2] h
    ·have h:=hf (decide_eq_false hk)
     obtain ⟨ht,hf⟩:=zt h
     generalize e:decide (16≤s.length∧xe bw bkey (ncF biv bm) h' (s.take (s.length-16))=s.drop (s.length-16))=c at ht hf
     cases c
     ·have h:=hf rfl
      repeat ((conv=>whnf);first|refine zo ?_|refine zf ?_|refine zg ?_|refine zb ?_|refine zr (by first|exact e) ?_|refine zi (by first|exact e) ?_|refine zj (by first|exact e) ?_)
      conv=>whnf
      exact zh [0,1,2] h
     ·have h:=ht rfl
      obtain ⟨ht,hf⟩:=zt h
      have hpl:(yi bw bkey (ncF biv bm) (s.take (s.length-16))).length≤20000:=by rw [xg,List.length_take];omega
      have hll:=zps (yi bw bkey (ncF biv bm) (s.take (s.length-16))) (yi bw bkey (ncF biv bm) (s.take (s.length-16))).length
      have hpi:((yi bw bkey (ncF biv bm) (s.take (s.length-16))).length:Int)=((yi bw bkey (ncF biv bm) (s.take (s.length-16))).length:Int)∧(yi bw bkey (ncF biv bm) (s.take (s.length-16))).length≤1000000:=⟨rfl,by omega⟩
      generalize e2:decide (iA (yi bw bkey (ncF biv bm) (s.take (s.length-16)))= -1)=c2 at ht hf
      cases c2
      ·have h:=hf rfl
       repeat ((conv=>whnf);first|refine zo ?_|refine zf ?_|refine zg ?_|refine zb ?_|refine zr (by first|exact e|exact e2) ?_|refine zi (by first|exact e|exact e2) ?_|refine zj (by first|exact e|exact e2) ?_)
       conv=>whnf
       exact zh [0,1,2] h
      ·have h:=ht rfl
       repeat ((conv=>whnf);first|refine zo ?_|refine zf ?_|refine zg ?_|refine zb ?_|refine zr (by first|exact e|exact e2) ?_|refine zi (by first|exact e|exact e2) ?_|refine zj (by first|exact e|exact e2) ?_)
       conv=>whnf
       exact zh [0,1,2] h
   ·exact h.elim
end Go.Sym.Z
