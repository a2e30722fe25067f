/-
  Contracts of functions of the program, each said of symbolic values, and plain laws; no condition beyond each statement's own.
-/
import Derived.Test.YtmmpgjcpielefaaGreatGLStreamTwins33
set_option linter.unusedSimpArgs false
set_option linter.unusedVariables false
namespace Go.Sym.Z
open Go Go.Proofs.Tryz Go.Sym.Lp Go.Sym.Ring Go.Sym.Cha Go.Sym.Sha Go.Sym.Hk
set_option maxRecDepth 100000
attribute [local irreducible] zab exF kyF ivF yx xe yi inL ncF hdF lnz iA two zbb zk iK inO inT
def ydm:List (Nat×List PStep):= []
def ydg:List (Nat×List PStep):= [(4,[⟨0,[]⟩,⟨1,[0]⟩,⟨2,[0]⟩,⟨3,[0]⟩,⟨4,[0]⟩,⟨5,[1,2,3,4]⟩,⟨6,[1,2,3,4]⟩,⟨7,[]⟩])]
theorem z0z (h:List UInt8) (i:Nat) (hi:i<5):(h.take 5).getD i 0=h.getD i 0:=by
  rw [List.getD_eq_getElem?_getD,List.getElem?_take,if_pos hi,←List.getD_eq_getElem?_getD]
theorem z98 (h:List UInt8):hK (h.take 5)=hK h:=by unfold hK;rw [z0z h 0 (by decide)]
theorem z9k (h:List UInt8):hN (h.take 5)=hN h:=by unfold hN;rw [z0z h 3 (by decide),z0z h 4 (by decide)]
theorem ydj (h:List UInt8) (k:Bool):hA (h.take 5) k=hA h k:=by unfold hA;rw [z98,z9k]
theorem zg3 {l:List UInt8} {n:Nat} {b h k:Int} (hl:l.length=n) (hb:0≤b) (hb':b<n) (hh:0≤h) (hh':h≤n) (hk:0≤k) (hk':k≤h):zk l ((b+k).tmod n).toNat (h-k).toNat=(zk l b.toNat h.toNat).drop k.toNat:=by
  have e0:((b+k).tmod n).toNat=(b.toNat+k.toNat)%n:=by rw [zcy (by omega)];congr 1;omega
  have e1:(h-k).toNat=h.toNat-k.toNat:=by omega
  rw [e0,e1]
  subst hl
  exact zp4 (by omega) (by omega) (by omega)
def nxM (R:Option Kq) (held:List UInt8) (ok:Int→List UInt8→Option Kq→Prop) (no bad:Int→Prop):Prop:=
  zv (decide (held.length<5)) (no (-1)) (zv (decide (hA held R.isSome= -1)) (zv (decide ((held.length:Int)<5+hN held)) (no (-1)) (zr5 R (hK held) (held.take 5) (hT held) (fun k d=>ok k d R) (fun k d=>ok k d (upK R)) no bad)) (no (hA held R.isSome)))
def zpz:Spec:=fun args hp K=>match args with
  | [.ptr 0 0 0 []]=>stM hp fun p W R f n b h l=>Pre (ym n n n l b h∧wOK R) (nxM R (zk l b.toNat h.toNat)
        (fun k d R'=>zag fun l':List UInt8=>(l'.length=n∧zk l' ((b+(5+hN (zk l b.toNat h.toNat))).tmod n).toNat (h-(5+hN (zk l b.toNat h.toNat))).toNat=hR (zk l b.toNat h.toNat))→K (.tup [.agg [.int k,.str d],.bool true,.int (-1)]) (stH p W R' f n ((b+(5+hN (zk l b.toNat h.toNat))).tmod n) (h-(5+hN (zk l b.toNat h.toNat))) l'))
        (fun a=>K (.tup [.agg [.int 0,.str []],.bool false,.int a]) (stH p W R f n b h l))
        (fun a=>zag fun l':List UInt8=>l'.length=n→K (.tup [.agg [.int 0,.str []],.bool false,.int a]) (stH p W (upK R) f n b h l')))
  |_=>False
set_option maxHeartbeats 16000000 in
theorem z0t:zp prog 61 zpz:=by
  refine zn x7 (zd zwp (zd z1m (zd z2q (zd z5g (zd z50 zl))))) rfl func61 rfl call61 (D:=ydm) ?_ ?_
  ·intro args hp K h
   unfold zpz at h
   split at h
   ·exact Nat.le_of_ble_eq_true rfl
   ·exact h.elim
  ·intro args hp K h
   unfold zpz at h
   split at h
   ·obtain ⟨t0,t1,t2,t3,t4,p,W,R,f,n,b,hh,l,ehp,h9⟩:=zdu h
    clear h
    subst ehp
    obtain ⟨⟨h0,hok⟩,h⟩:=zm h9
    clear h9
    have h0':=h0
    unfold ym at h0'
    have hln:l.length=n:=by omega
    have hcl:(zk l b.toNat hh.toNat).length=hh.toNat:=xt (by omega) (by omega)
    have hdE:List.take (Int.toNat 5) (List.drop (Int.toNat 0) (zk l b.toNat hh.toNat))=List.take 5 (zk l b.toNat hh.toNat):=rfl
    have hKe:=z98 (zk l b.toNat hh.toNat)
    have hNe:=z9k (zk l b.toNat hh.toNat)
    have hAe:=ydj (zk l b.toNat hh.toNat)
    have hNb:=zli (zk l b.toNat hh.toNat)
    obtain ⟨ht,hf⟩:=zt h
    clear h
    by_cases h5:(zk l b.toNat hh.toNat).length<5
    ·have h:=ht (decide_eq_true h5)
     have dpk:decide ((0:Int)≤0∧(0:Int)≤5∧0≤hh∧5≤hh-0)=false:=decide_eq_false (by omega)
     rcases R with _|⟨bw,bk,bi,bm⟩<;>rcases W with _|⟨aw,ak,ai,am⟩
     all_goals (
       dsimp only [zaq]
       repeat ((conv=>whnf);first|refine zo ?_|refine zf ?_|refine zg ?_|refine zb ?_|refine zr (by first|exact dpk|(rw [dpk];rfl)) ?_|refine zi (by first|exact dpk|(rw [dpk];rfl)) ?_|refine zj (by first|exact dpk|(rw [dpk];rfl)) ?_)
       conv=>whnf
       refine y0 h ?_
       exact zu)
    ·have h:=hf (decide_eq_false h5)
     have dpk:decide ((0:Int)≤0∧(0:Int)≤5∧0≤hh∧5≤hh-0)=true:=decide_eq_true (by omega)
     have hl5:(List.take 5 (zk l b.toNat hh.toNat)).length=5:=by rw [List.length_take,hcl];omega
     have hph:5≤(List.take (Int.toNat 5) (List.drop (Int.toNat 0) (zk l b.toNat hh.toNat))).length∧(List.take (Int.toNat 5) (List.drop (Int.toNat 0) (zk l b.toNat hh.toNat))).length<9223372036854775808:=by rw [hdE,hl5];decide
     clear ht hf
     obtain ⟨ht,hf⟩:=zt h
     clear h
     rcases R with _|⟨bw,bk,bi,bm⟩
     ·have hAk:hA (zk l b.toNat hh.toNat) false=hA (zk l b.toNat hh.toNat) (Option.isSome (none:Option Kq)):=rfl
      by_cases ha:hA (zk l b.toNat hh.toNat) false= -1
      ·have h:=ht (decide_eq_true ha)
       have e1:decide (hA (List.take (Int.toNat 5) (List.drop (Int.toNat 0) (zk l b.toNat hh.toNat))) false= -1)=true:=decide_eq_true (by rw [hdE,hAe];exact ha)
       have hn16:=zoh ha
       clear ht hf
       obtain ⟨ht,hf⟩:=zt h
       clear h
       by_cases hs:((zk l b.toNat hh.toNat).length:Int)<5+hN (zk l b.toNat hh.toNat)
       ·have h:=ht (decide_eq_true hs)
        rcases W with _|⟨aw,ak,ai,am⟩
        all_goals (
          dsimp only [zaq]
          repeat ((conv=>whnf);first|refine zo ?_|refine zf ?_|refine zg ?_|refine zb ?_|refine zr (by first|exact dpk|(rw [dpk];rfl)|exact e1|(rw [e1];rfl)) ?_|refine zi (by first|exact dpk|(rw [dpk];rfl)|exact e1|(rw [e1];rfl)) ?_|refine zj (by first|exact dpk|(rw [dpk];rfl)|exact e1|(rw [e1];rfl)) ?_)
          conv=>whnf
          rw [hdE,hKe,hNe]
          refine za ?_
          refine y0 h ?_
          exact zu)
       ·have h:=hf (decide_eq_false hs)
        clear ht hf
        have hpre:ym n n n l b hh∧0≤hN (zk l b.toNat hh.toNat)∧5+hN (zk l b.toNat hh.toNat)≤hh∧hN (zk l b.toNat hh.toNat)≤16640∧wOK (none)∧(List.take 5 (zk l b.toNat hh.toNat)).length≤100:=⟨h0,by omega,by omega,by omega,hok,by omega⟩
        have hdrop: ∀l':List UInt8,l'.length=n→ym n n n l' b hh∧0≤5+hN (zk l b.toNat hh.toNat)∧5+hN (zk l b.toNat hh.toNat)≤hh:=fun l' h=>⟨zhp h0 h,by omega,by omega⟩
        have hcn: ∀l':List UInt8,l'.length=n→(zk l' b.toNat hh.toNat).drop (5+(hN (zk l b.toNat hh.toNat)).toNat)=(zk l b.toNat hh.toNat).drop (5+(hN (zk l b.toNat hh.toNat)).toNat)→zk l' ((b+(5+hN (zk l b.toNat hh.toNat))).tmod n).toNat (hh-(5+hN (zk l b.toNat hh.toNat))).toNat=hR (zk l b.toNat hh.toNat):=fun l' h e=>by
          rw [zg3 h (by omega) (by omega) (by omega) (by omega) (by omega) (by omega),show (5+hN (zk l b.toNat hh.toNat)).toNat=5+(hN (zk l b.toNat hh.toNat)).toNat by omega,e]
          rfl
        have hsame:=hcn l hln rfl
        have hdr:=hdrop l hln
        rcases W with _|⟨aw,ak,ai,am⟩
        all_goals (
          dsimp only [zaq]
          repeat ((conv=>whnf);first|refine zo ?_|refine zf ?_|refine zg ?_|refine zb ?_|refine zr (by first|exact dpk|(rw [dpk];rfl)|exact e1|(rw [e1];rfl)) ?_|refine zi (by first|exact dpk|(rw [dpk];rfl)|exact e1|(rw [e1];rfl)) ?_|refine zj (by first|exact dpk|(rw [dpk];rfl)|exact e1|(rw [e1];rfl)) ?_)
          conv=>whnf
          rw [hdE,hKe,hNe]
          refine za ?_
          refine y0 (xp h _ ⟨hln,hsame⟩) ?_
          exact zu)
      ·have h:=hf (decide_eq_false ha)
       have e1:decide (hA (List.take (Int.toNat 5) (List.drop (Int.toNat 0) (zk l b.toNat hh.toNat))) false= -1)=false:=decide_eq_false (by rw [hdE,hAe];exact ha)
       have eA:hA (List.take (Int.toNat 5) (List.drop (Int.toNat 0) (zk l b.toNat hh.toNat))) (!true)=hA (zk l b.toNat hh.toNat) false:=by rw [hdE,hAe];rfl
       have e2:decide (hA (zk l b.toNat hh.toNat) false= -1)=false:=decide_eq_false ha
       rcases W with _|⟨aw,ak,ai,am⟩
       all_goals (
         dsimp only [zaq]
         repeat ((conv=>whnf);first|refine zo ?_|refine zf ?_|refine zg ?_|refine zb ?_|refine zr (by first|exact dpk|(rw [dpk];rfl)|exact e1|(rw [e1];rfl)) ?_|refine zi (by first|exact dpk|(rw [dpk];rfl)|exact e1|(rw [e1];rfl)) ?_|refine zj (by first|exact dpk|(rw [dpk];rfl)|exact e1|(rw [e1];rfl)) ?_)
         conv=>whnf
         rw [eA]
         repeat ((conv=>whnf);first|refine zo ?_|refine zf ?_|refine zg ?_|refine zb ?_|refine zr (by first|exact e2|(rw [e2];rfl)) ?_|refine zi (by first|exact e2|(rw [e2];rfl)) ?_|refine zj (by first|exact e2|(rw [e2];rfl)) ?_)
         conv=>whnf
         refine y0 h ?_
         exact zu)
     ·have hAk:hA (zk l b.toNat hh.toNat) true=hA (zk l b.toNat hh.toNat) (Option.isSome (some (Kq.mk bw bk bi bm))):=rfl
      by_cases ha:hA (zk l b.toNat hh.toNat) true= -1
      ·have h:=ht (decide_eq_true ha)
       have e1:decide (hA (List.take (Int.toNat 5) (List.drop (Int.toNat 0) (zk l b.toNat hh.toNat))) true= -1)=true:=decide_eq_true (by rw [hdE,hAe];exact ha)
       have hn16:=zoh ha
       clear ht hf
       obtain ⟨ht,hf⟩:=zt h
       clear h
       by_cases hs:((zk l b.toNat hh.toNat).length:Int)<5+hN (zk l b.toNat hh.toNat)
       ·have h:=ht (decide_eq_true hs)
        rcases W with _|⟨aw,ak,ai,am⟩
        all_goals (
          dsimp only [zaq]
          repeat ((conv=>whnf);first|refine zo ?_|refine zf ?_|refine zg ?_|refine zb ?_|refine zr (by first|exact dpk|(rw [dpk];rfl)|exact e1|(rw [e1];rfl)) ?_|refine zi (by first|exact dpk|(rw [dpk];rfl)|exact e1|(rw [e1];rfl)) ?_|refine zj (by first|exact dpk|(rw [dpk];rfl)|exact e1|(rw [e1];rfl)) ?_)
          conv=>whnf
          rw [hdE,hKe,hNe]
          refine za ?_
          refine y0 h ?_
          exact zu)
       ·have h:=hf (decide_eq_false hs)
        clear ht hf
        have hpre:ym n n n l b hh∧0≤hN (zk l b.toNat hh.toNat)∧5+hN (zk l b.toNat hh.toNat)≤hh∧hN (zk l b.toNat hh.toNat)≤16640∧wOK (some ⟨bw,bk,bi,bm⟩)∧(List.take 5 (zk l b.toNat hh.toNat)).length≤100:=⟨h0,by omega,by omega,by omega,hok,by omega⟩
        have hdrop: ∀l':List UInt8,l'.length=n→ym n n n l' b hh∧0≤5+hN (zk l b.toNat hh.toNat)∧5+hN (zk l b.toNat hh.toNat)≤hh:=fun l' h=>⟨zhp h0 h,by omega,by omega⟩
        have hcn: ∀l':List UInt8,l'.length=n→(zk l' b.toNat hh.toNat).drop (5+(hN (zk l b.toNat hh.toNat)).toNat)=(zk l b.toNat hh.toNat).drop (5+(hN (zk l b.toNat hh.toNat)).toNat)→zk l' ((b+(5+hN (zk l b.toNat hh.toNat))).tmod n).toNat (hh-(5+hN (zk l b.toNat hh.toNat))).toNat=hR (zk l b.toNat hh.toNat):=fun l' h e=>by
          rw [zg3 h (by omega) (by omega) (by omega) (by omega) (by omega) (by omega),show (5+hN (zk l b.toNat hh.toNat)).toNat=5+(hN (zk l b.toNat hh.toNat)).toNat by omega,e]
          rfl
        have hsame:=hcn l hln rfl
        have hdr:=hdrop l hln
        obtain ⟨ht,hf⟩:=zt h
        clear h
        by_cases hk:hK (zk l b.toNat hh.toNat)=20
        ·have h:=ht (decide_eq_true hk)
         have d20:=decide_eq_true hk
         rcases W with _|⟨aw,ak,ai,am⟩
         all_goals (
           dsimp only [zaq]
           repeat ((conv=>whnf);first|refine zo ?_|refine zf ?_|refine zg ?_|refine zb ?_|refine zr (by first|exact dpk|(rw [dpk];rfl)|exact e1|(rw [e1];rfl)) ?_|refine zi (by first|exact dpk|(rw [dpk];rfl)|exact e1|(rw [e1];rfl)) ?_|refine zj (by first|exact dpk|(rw [dpk];rfl)|exact e1|(rw [e1];rfl)) ?_)
           conv=>whnf
           rw [hdE,hKe,hNe]
           repeat ((conv=>whnf);first|refine zo ?_|refine zf ?_|refine zg ?_|refine zb ?_|refine zr (by first|exact d20|(rw [d20];rfl)) ?_|refine zi (by first|exact d20|(rw [d20];rfl)) ?_|refine zj (by first|exact d20|(rw [d20];rfl)) ?_)
           conv=>whnf
           refine y0 (xp h _ ⟨hln,hsame⟩) ?_
           exact zu)
        ·have h:=hf (decide_eq_false hk)
         have d20:=decide_eq_false hk
         clear ht hf
         obtain ⟨ht,hf⟩:=zt h
         clear h
         by_cases hop:inO ⟨bw,bk,bi,bm⟩ (List.take 5 (zk l b.toNat hh.toNat)) (hT (zk l b.toNat hh.toNat))
         ·have h:=ht (decide_eq_true hop)
          have dop:decide (inO ⟨bw,bk,bi,bm⟩ (List.take 5 (zk l b.toNat hh.toNat)) (List.take (hN (zk l b.toNat hh.toNat)).toNat (List.drop 5 (zk l b.toNat hh.toNat))))=true:=decide_eq_true hop
          clear ht hf
          obtain ⟨ht,hf⟩:=zt h
          clear h
          by_cases hi:iA (inT ⟨bw,bk,bi,bm⟩ (hT (zk l b.toNat hh.toNat)))= -1
          ·have h:=ht (decide_eq_true hi)
           have di:decide (iA (inT ⟨bw,bk,bi,bm⟩ (List.take (hN (zk l b.toNat hh.toNat)).toNat (List.drop 5 (zk l b.toNat hh.toNat))))= -1)=true:=decide_eq_true hi
           rcases W with _|⟨aw,ak,ai,am⟩
           all_goals (
             dsimp only [zaq]
             repeat ((conv=>whnf);first|refine zo ?_|refine zf ?_|refine zg ?_|refine zb ?_|refine zr (by first|exact dpk|(rw [dpk];rfl)|exact e1|(rw [e1];rfl)) ?_|refine zi (by first|exact dpk|(rw [dpk];rfl)|exact e1|(rw [e1];rfl)) ?_|refine zj (by first|exact dpk|(rw [dpk];rfl)|exact e1|(rw [e1];rfl)) ?_)
             conv=>whnf
             rw [hdE,hKe,hNe]
             repeat ((conv=>whnf);first|refine zo ?_|refine zf ?_|refine zg ?_|refine zb ?_|refine zr (by first|exact d20|(rw [d20];rfl)|exact dop|(rw [dop];rfl)|exact di|(rw [di];rfl)) ?_|refine zi (by first|exact d20|(rw [d20];rfl)|exact dop|(rw [dop];rfl)|exact di|(rw [di];rfl)) ?_|refine zj (by first|exact d20|(rw [d20];rfl)|exact dop|(rw [dop];rfl)|exact di|(rw [di];rfl)) ?_)
             conv=>whnf
             refine yh fun l' hl'=>?_
             have hdr':=hdrop l' hl'.1
             refine za ?_
             refine y0 (xp h l' ⟨hl'.1,hcn l' hl'.1 hl'.2⟩) ?_
             exact zu)
          ·have h:=hf (decide_eq_false hi)
           have di:decide (iA (inT ⟨bw,bk,bi,bm⟩ (List.take (hN (zk l b.toNat hh.toNat)).toNat (List.drop 5 (zk l b.toNat hh.toNat))))= -1)=false:=decide_eq_false hi
           rcases W with _|⟨aw,ak,ai,am⟩
           all_goals (
             dsimp only [zaq]
             repeat ((conv=>whnf);first|refine zo ?_|refine zf ?_|refine zg ?_|refine zb ?_|refine zr (by first|exact dpk|(rw [dpk];rfl)|exact e1|(rw [e1];rfl)) ?_|refine zi (by first|exact dpk|(rw [dpk];rfl)|exact e1|(rw [e1];rfl)) ?_|refine zj (by first|exact dpk|(rw [dpk];rfl)|exact e1|(rw [e1];rfl)) ?_)
             conv=>whnf
             rw [hdE,hKe,hNe]
             repeat ((conv=>whnf);first|refine zo ?_|refine zf ?_|refine zg ?_|refine zb ?_|refine zr (by first|exact d20|(rw [d20];rfl)|exact dop|(rw [dop];rfl)|exact di|(rw [di];rfl)) ?_|refine zi (by first|exact d20|(rw [d20];rfl)|exact dop|(rw [dop];rfl)|exact di|(rw [di];rfl)) ?_|refine zj (by first|exact d20|(rw [d20];rfl)|exact dop|(rw [dop];rfl)|exact di|(rw [di];rfl)) ?_)
             conv=>whnf
             refine yh fun l' hl'=>?_
             repeat ((conv=>whnf);first|refine zo ?_|refine zf ?_|refine zg ?_|refine zb ?_|refine zr (by first|exact di|(rw [di];rfl)) ?_|refine zi (by first|exact di|(rw [di];rfl)) ?_|refine zj (by first|exact di|(rw [di];rfl)) ?_)
             conv=>whnf
             refine y0 (xp h l' hl') ?_
             exact zu)
         ·have h:=hf (decide_eq_false hop)
          have dop:decide (inO ⟨bw,bk,bi,bm⟩ (List.take 5 (zk l b.toNat hh.toNat)) (List.take (hN (zk l b.toNat hh.toNat)).toNat (List.drop 5 (zk l b.toNat hh.toNat))))=false:=decide_eq_false hop
          rcases W with _|⟨aw,ak,ai,am⟩
          all_goals (
            dsimp only [zaq]
            repeat ((conv=>whnf);first|refine zo ?_|refine zf ?_|refine zg ?_|refine zb ?_|refine zr (by first|exact dpk|(rw [dpk];rfl)|exact e1|(rw [e1];rfl)) ?_|refine zi (by first|exact dpk|(rw [dpk];rfl)|exact e1|(rw [e1];rfl)) ?_|refine zj (by first|exact dpk|(rw [dpk];rfl)|exact e1|(rw [e1];rfl)) ?_)
            conv=>whnf
            rw [hdE,hKe,hNe]
            repeat ((conv=>whnf);first|refine zo ?_|refine zf ?_|refine zg ?_|refine zb ?_|refine zr (by first|exact d20|(rw [d20];rfl)|exact dop|(rw [dop];rfl)) ?_|refine zi (by first|exact d20|(rw [d20];rfl)|exact dop|(rw [dop];rfl)) ?_|refine zj (by first|exact d20|(rw [d20];rfl)|exact dop|(rw [dop];rfl)) ?_)
            conv=>whnf
            refine y0 h ?_
            exact zu)
      ·have h:=hf (decide_eq_false ha)
       have e1:decide (hA (List.take (Int.toNat 5) (List.drop (Int.toNat 0) (zk l b.toNat hh.toNat))) true= -1)=false:=decide_eq_false (by rw [hdE,hAe];exact ha)
       have eA:hA (List.take (Int.toNat 5) (List.drop (Int.toNat 0) (zk l b.toNat hh.toNat))) (!false)=hA (zk l b.toNat hh.toNat) true:=by rw [hdE,hAe];rfl
       have e2:decide (hA (zk l b.toNat hh.toNat) true= -1)=false:=decide_eq_false ha
       rcases W with _|⟨aw,ak,ai,am⟩
       all_goals (
         dsimp only [zaq]
         repeat ((conv=>whnf);first|refine zo ?_|refine zf ?_|refine zg ?_|refine zb ?_|refine zr (by first|exact dpk|(rw [dpk];rfl)|exact e1|(rw [e1];rfl)) ?_|refine zi (by first|exact dpk|(rw [dpk];rfl)|exact e1|(rw [e1];rfl)) ?_|refine zj (by first|exact dpk|(rw [dpk];rfl)|exact e1|(rw [e1];rfl)) ?_)
         conv=>whnf
         rw [eA]
         repeat ((conv=>whnf);first|refine zo ?_|refine zf ?_|refine zg ?_|refine zb ?_|refine zr (by first|exact e2|(rw [e2];rfl)) ?_|refine zi (by first|exact e2|(rw [e2];rfl)) ?_|refine zj (by first|exact e2|(rw [e2];rfl)) ?_)
         conv=>whnf
         refine y0 h ?_
         exact zu)
   ·exact h.elim
theorem zt4 {R:Option Kq} {kind:Int} {hd r:List UInt8} {ok okN ok2 okN2:Int→List UInt8→Prop} {no bad no2 bad2:Int→Prop} (h:zr5 R kind hd r ok okN no bad) (h1: ∀k d,ok k d→ok2 k d) (h2: ∀k d,okN k d→okN2 k d) (h3: ∀a,no a→no2 a) (h4: ∀a,bad a→bad2 a):zr5 R kind hd r ok2 okN2 no2 bad2:=by
  cases R with
  |none=>exact h1 _ _ h
  |some k=>
   obtain ⟨ht,hf⟩:=zt h
   refine za9 (fun e=>h1 _ _ (ht e)) (fun e=>?_)
   obtain ⟨ht,hf⟩:=zt (hf e)
   refine za9 (fun e=>?_) (fun e=>h3 _ (hf e))
   obtain ⟨ht,hf⟩:=zt (ht e)
   exact za9 (fun e=>h2 _ _ (ht e)) (fun e=>h4 _ (hf e))
theorem z24 {R:Option Kq} {held:List UInt8} {ok ok2:Int→List UInt8→Option Kq→Prop} {no bad no2 bad2:Int→Prop} (h:nxM R held ok no bad) (h1: ∀k d R',R'.isSome=R.isSome→ok k d R'→ok2 k d R') (h3: ∀a,no a→no2 a) (h4: ∀a,bad a→bad2 a):nxM R held ok2 no2 bad2:=by
  obtain ⟨ht,hf⟩:=zt h
  refine za9 (fun e=>h3 _ (ht e)) (fun e=>?_)
  obtain ⟨ht,hf⟩:=zt (hf e)
  refine za9 (fun e=>?_) (fun e=>h3 _ (hf e))
  obtain ⟨ht,hf⟩:=zt (ht e)
  exact za9 (fun e=>h3 _ (ht e)) (fun e=>zt4 (hf e) (fun k d=>h1 k d R rfl) (fun k d=>h1 k d (upK R) (by cases R<;>rfl)) h3 h4)
attribute [local irreducible] nxM
def zqr:Spec:=fun args hp K=>match args with
  | [.ptr 0 0 0 []]=>stM hp fun p W R f n b h l=>Pre (ym n n n l b h∧wOK R) (zv (decide (f= -1)) (nxM R (zk l b.toNat h.toNat)
        (fun k d R'=>zag fun l':List UInt8=>(l'.length=n∧zk l' ((b+(5+hN (zk l b.toNat h.toNat))).tmod n).toNat (h-(5+hN (zk l b.toNat h.toNat))).toNat=hR (zk l b.toNat h.toNat))→K (.tup [.agg [.int k,.str d],.bool true,.int (-1)]) (stH p W R' (-1) n ((b+(5+hN (zk l b.toNat h.toNat))).tmod n) (h-(5+hN (zk l b.toNat h.toNat))) l'))
        (fun a=>K (.tup [.agg [.int 0,.str []],.bool false,.int a]) (stH p W R a n b h l))
        (fun a=>zag fun l':List UInt8=>l'.length=n→K (.tup [.agg [.int 0,.str []],.bool false,.int a]) (stH p W (upK R) a n b h l'))) (K (.tup [.agg [.int 0,.str []],.bool false,.int f]) (stH p W R f n b h l)))
  |_=>False
set_option maxHeartbeats 16000000 in
theorem zvo:zp prog 35 zqr:=by
  refine zn x7 (zd z0t zl) rfl func35 rfl call35 (D:=ydg) ?_ ?_
  ·intro args hp K h
   unfold zqr at h
   split at h
   ·exact Nat.le_of_ble_eq_true rfl
   ·exact h.elim
  ·intro args hp K h
   unfold zqr at h
   split at h
   ·obtain ⟨t0,t1,t2,t3,t4,p,W,R,f,n,b,hh,l,ehp,h9⟩:=zdu h
    clear h
    subst ehp
    obtain ⟨hpre,h⟩:=zm h9
    clear h9
    obtain ⟨ht,hf⟩:=zt h
    clear h
    by_cases hfm:f= -1
    ·have h:=ht (decide_eq_true hfm)
     subst hfm
     rcases W with _|⟨aw,ak,ai,am⟩<;>rcases R with _|⟨bw,bk,bi,bm⟩
     all_goals (
       dsimp only [zaq]
       refine za ?_
       refine z24 h ?_ ?_ ?_
       ·intro k d R' he h
        rcases R' with _|⟨bw,bk,bi,bm⟩
        all_goals first|(exact Bool.noConfusion (show false=true from he))|(exact Bool.noConfusion (show true=false from he))|(
          conv=>whnf
          refine yh fun l' hl'=>?_
          refine za ?_
          refine y0 (xp h l' hl') ?_
          exact zu)
       ·intro a h
        refine za ?_
        refine y0 h ?_
        exact zu
       ·intro a h
        conv=>whnf
        refine yh fun l' hl'=>?_
        refine za ?_
        refine y0 (xp h l' hl') ?_
        exact zu)
    ·have h:=hf (decide_eq_false hfm)
     have d0:=decide_eq_false hfm
     rcases W with _|⟨aw,ak,ai,am⟩<;>rcases R with _|⟨bw,bk,bi,bm⟩
     all_goals (
       dsimp only [zaq]
       repeat ((conv=>whnf);first|refine zo ?_|refine zf ?_|refine zg ?_|refine zb ?_|refine zr (by first|exact d0|(rw [d0];rfl)) ?_|refine zi (by first|exact d0|(rw [d0];rfl)) ?_|refine zj (by first|exact d0|(rw [d0];rfl)) ?_)
       conv=>whnf
       refine y0 h ?_
       exact zu)
   ·exact h.elim
end Go.Sym.Z

namespace Go.Sym.Z
open Go Go.Proofs.Tryz Go.Sym.Lp Go.Sym.Ring Go.Sym.Cha Go.Sym.Sha Go.Sym.Hk Go.Sym.Gcm
set_option maxRecDepth 100000
def ycp:List (Nat×List PStep):= []
def ycx:List (Nat×TyI):= [(3,ty3),(4,ty4),(5,ty5),(9,ty9),(48,zcp),(51,zco),(113,x4),(99,x3),(103,zck),(68,zgw),(70,zg0),(104,zcj),(97,zin),(56,zit),(121,zc3),(93,zhk),(43,zgz)]
theorem z5v: ∀t i,y3 ycx t=some i→yp prog t i:=(zc ty3_ok (zc zbm (zc zbe (zc ty9_ok (zc zak (zc zam (zc zai (zc za7 (zc zdq (zc zgq (zc zgn (zc zds (zc zkm (zc zky (zc zfj (zc zim (zc zgo x1)))))))))))))))))
attribute [local irreducible] zab exF kyF ivF yx xe yi inL ncF lnz iA hA hN hK zas zf3 hO hP hR hT iK hdF zk nxM zb7
def rst (n:Nat) (b h:Int) (l held:List UInt8):Prop:=ym n n n l b h∧zk l b.toNat h.toNat=held∧h=(held.length:Int)
theorem zhm {n:Nat} {b h:Int} {l held:List UInt8} (hr:rst n b h l held):ym n n n l b h:=hr.1
theorem zol {n:Nat} {b h:Int} {l held:List UInt8} (hr:rst n b h l held):zk l b.toNat h.toNat=held:=hr.2.1
theorem ybw {n:Nat} {b h:Int} {l held:List UInt8} (hr:rst n b h l held):h=(held.length:Int)∧held.length≤n∧n≤1048576:=by
  obtain ⟨h1,h2,h3⟩:=hr
  unfold ym at h1
  omega
theorem zwh {n:Nat} (h:1≤n∧n≤1048576):rst n 0 0 (List.replicate n 0) []:=by
  refine ⟨?_,?_,rfl⟩
  ·unfold ym;rw [List.length_replicate];omega
  ·exact List.length_eq_zero_iff.1 (xt (by rw [List.length_replicate];exact Nat.zero_le _) (Nat.zero_le _))
theorem z3i {n:Nat} {b h:Int} {l held:List UInt8} (hn:1≤n∧n≤1048576) (hl:l.length=n) (hb:0≤b∧b<n) (hh:0≤h∧h≤n) (hc:zk l b.toNat h.toNat=held):rst n b h l held:=by
  have e:h=(held.length:Int):=by rw [←hc,xt (by omega) (by omega)];omega
  exact ⟨by unfold ym;omega,hc,e⟩
theorem zsi {n:Nat} {b h:Int} {l held l' s:List UInt8} (hr:rst n b h l held) (hl:l'.length=n∧zk l' b.toNat (h+min (s.length:Int) (n-h)).toNat=zk l b.toNat h.toNat++s.take (min (s.length:Int) (n-h)).toNat):
    rst n b (h+min (s.length:Int) (n-h)) l' (held++s.take (min (s.length:Int) (n-h)).toNat):=by
  have h1:=hr.1
  unfold ym at h1
  exact z3i (by omega) hl.1 (by omega) (by omega) (by rw [hl.2,hr.2.1])
theorem zrg {n:Nat} {b h k:Int} {l held l':List UInt8} {x:List UInt8} (hr:rst n b h l held) (hk:0≤k∧k≤h) (hl:l'.length=n∧zk l' ((b+k).tmod n).toNat (h-k).toNat=x):rst n ((b+k).tmod n) (h-k) l' x:=by
  have h1:=hr.1
  unfold ym at h1
  exact z3i (by omega) hl.1 ⟨Int.tmod_nonneg _ (by omega),Int.tmod_lt_of_pos _ (by omega)⟩ (by omega) hl.2
inductive NxR where
  |ok (k:Int) (d:List UInt8) (R:Option Kq)
  |no (a:Int)
  |bad (a:Int)
def nxR (R:Option Kq) (held:List UInt8):NxR:=
  if held.length<5 then .no (-1) else if hA held R.isSome= -1 then (if (held.length:Int)<5+hN held then .no (-1) else match R with
   |none=> .ok (hK held) (hT held) none
   |some k=>if hK held=20 then .ok (hK held) (hT held) (some k) else if inO k (held.take 5) (hT held) then (if iA (inT k (hT held))= -1 then .ok (iK (inT k (hT held))) ((inT k (hT held)).take (lnz (inT k (hT held)) (inT k (hT held)).length-1)) (upK (some k)) else .bad (iA (inT k (hT held)))) else .no 20) else .no (hA held R.isSome)
def nxP (x:NxR) (ok:Int→List UInt8→Option Kq→Prop) (no bad:Int→Prop):Prop:=match x with
  | .ok k d R=>ok k d R
  | .no a=>no a
  | .bad a=>bad a
attribute [local semireducible] nxM in
theorem zfv {R:Option Kq} {held:List UInt8} {ok:Int→List UInt8→Option Kq→Prop} {no bad:Int→Prop} (h:nxP (nxR R held) ok no bad):nxM R held ok no bad:=by
  unfold nxM
  unfold nxR at h
  by_cases h5:held.length<5
  ·rw [if_pos h5] at h;exact zi (decide_eq_true h5) h
  ·rw [if_neg h5] at h
   refine zj (decide_eq_false h5) ?_
   by_cases ha:hA held R.isSome= -1
   ·rw [if_pos ha] at h
    refine zi (decide_eq_true ha) ?_
    by_cases hs:(held.length:Int)<5+hN held
    ·rw [if_pos hs] at h;exact zi (decide_eq_true hs) h
    ·rw [if_neg hs] at h
     refine zj (decide_eq_false hs) ?_
     cases R with
     |none=>exact h
     |some k=>
      dsimp only at h
      show zv _ _ _
      by_cases hk:hK held=20
      ·rw [if_pos hk] at h;exact zi (decide_eq_true hk) h
      ·rw [if_neg hk] at h
       refine zj (decide_eq_false hk) ?_
       by_cases ho:inO k (held.take 5) (hT held)
       ·rw [if_pos ho] at h
        refine zi (decide_eq_true ho) ?_
        by_cases hi:iA (inT k (hT held))= -1
        ·rw [if_pos hi] at h;exact zi (decide_eq_true hi) h
        ·rw [if_neg hi] at h;exact zj (decide_eq_false hi) h
       ·rw [if_neg ho] at h;exact zj (decide_eq_false ho) h
   ·rw [if_neg ha] at h;exact zj (decide_eq_false ha) h
def abS:List UInt8:= [22,3,3,0,2,97,98]
theorem z6k:([]:List UInt8)++List.take (min ((zb7 0 none 22 [97,98]).length:Int) (((Int.toNat 33290:Nat):Int)-0)).toNat (zb7 0 none 22 [97,98])=abS:=by
  have e:zb7 0 none 22 [97,98]=abS:=by unfold zb7 hdF abS;rfl
  rw [e];decide+kernel
theorem zp9:((zb7 0 none 22 [97,98]).length:Int)=7:=by
  have e:zb7 0 none 22 [97,98]=abS:=by unfold zb7 hdF abS;rfl
  rw [e];decide+kernel
theorem ybh:decide (hA abS false= -1)=true:=by unfold hA;decide+kernel
theorem zv8:hN abS=2:=by unfold hN;decide+kernel
theorem yaw:hK abS=22:=by unfold hK;decide+kernel
theorem yan:hT abS= [97,98]:=by unfold hT;rw [zv8];decide+kernel
theorem yal:hR abS= []:=by unfold hR;rw [zv8];decide+kernel
theorem yab:nxR none abS= .ok 22 [97,98] none:=by
  have h5: ¬abS.length<5:=by decide
  unfold nxR
  rw [if_neg h5,if_pos (show hA abS (none:Option Kq).isSome= -1 from of_decide_eq_true ybh),if_neg (by rw [zv8];decide)]
  dsimp only
  rw [yaw,yan]
def zke:Spec:=fun args hp K=>match args,hp with
  | [],[]=>K (.bool true) []
  |_,_=>False
set_option maxHeartbeats 8000000 in
theorem zzr:zp prog 28 zke:=by
  refine zn z5v (zd z05 (zd zzi (zd zu5 (zd zwj (zd zva (zd zvo zl)))))) rfl func28 rfl call28 (D:=ycp) ?_ ?_
  ·intro args hp K h
   unfold zke at h
   split at h
   ·exact Nat.le_of_ble_eq_true rfl
   ·exact h.elim
  ·intro args hp K h
   unfold zke at h
   split at h
   ·have hp1:wOK none∧(0:Int)≤0∧(0:Int)≤16384∧([97,98]:List UInt8).length≤140737488351232:=⟨trivial,by decide,by decide,by decide⟩
    have hr0:=zwh (n:=Int.toNat 33290) (by decide)
    have hp2:ym (Int.toNat 33290) (Int.toNat 33290) (Int.toNat 33290) (List.replicate (Int.toNat 33290) 0) 0 0∧(zb7 0 none 22 [97,98]).length≤4611686018427387904:=⟨zhm hr0,by have:=zp9;omega⟩
    refine za ?_
    refine yh fun l hl=>?_
    have hr1:=zsi hr0 hl
    rw [z6k] at hr1
    rw [zp9] at hr1
    rw [zp9]
    have hm:(0:Int)+min 7 (((Int.toNat 33290:Nat):Int)-0)=7:=by decide
    rw [hm] at hr1
    have hm2:min (7:Int) (((Int.toNat 33290:Nat):Int)-0)=7:=by decide
    rw [hm2]
    rw [show (0:Int)+7=7 from rfl]
    have hp3:ym (Int.toNat 33290) (Int.toNat 33290) (Int.toNat 33290) l 0 7∧wOK none:=⟨zhm hr1,trivial⟩
    refine za ?_
    rw [zol hr1]
    refine zfv ?_
    rw [yab,zv8,yal]
    conv=>whnf
    refine yh fun l' hl'=>?_
    have e0:(7:Int)-(5+2)=0:=rfl
    have e1:((0:Int)+(5+2)).tmod ((Int.toNat 33290:Nat):Int)=7:=by decide
    rw [e0,e1]
    refine za ?_
    exact zh [] h
   ·exact h.elim
end Go.Sym.Z

namespace Go.Sym.Z
open Go Go.Proofs.Tryz Go.Sym.Lp Go.Sym.Ring Go.Sym.Cha Go.Sym.Sha Go.Sym.Hk Go.Sym.Gcm
set_option maxRecDepth 100000
attribute [local irreducible] zab exF kyF ivF yx xe yi inL ncF lnz iA hA hN hK zas zf3 hO hP hR hT iK hdF zk nxM nxR zb7
end Go.Sym.Z

namespace Go.Sym.Z
open Go Go.Proofs.Tryz Go.Sym.Lp Go.Sym.Ring Go.Sym.Cha Go.Sym.Sha Go.Sym.Hk Go.Sym.Gcm
set_option maxRecDepth 100000
theorem zy7 {k:Kq} {held:List UInt8}:(∃a d,nxR (some k) held= .ok a d (some k))∨(∃a d,nxR (some k) held= .ok a d (some ⟨k.w,k.key,k.iv,k.m+1⟩))∨nxR (some k) held= .no (-1)∨(∃a,0≤a∧nxR (some k) held= .no a)∨(∃a,0≤a∧nxR (some k) held= .bad a):=by
  unfold nxR
  by_cases h5:held.length<5
  ·rw [if_pos h5];exact .inr (.inr (.inl rfl))
  ·rw [if_neg h5]
   by_cases ha:hA held (some k).isSome= -1
   ·rw [if_pos ha]
    by_cases hs:(held.length:Int)<5+hN held
    ·rw [if_pos hs];exact .inr (.inr (.inl rfl))
    ·rw [if_neg hs]
     dsimp only
     by_cases hk:hK held=20
     ·rw [if_pos hk];exact .inl ⟨_,_,rfl⟩
     ·rw [if_neg hk]
      by_cases ho:inO k (held.take 5) (hT held)
      ·rw [if_pos ho]
       by_cases hi:iA (inT k (hT held))= -1
       ·rw [if_pos hi];exact .inr (.inl ⟨_,_,rfl⟩)
       ·rw [if_neg hi];exact .inr (.inr (.inr (.inr ⟨_,(z8r _).resolve_left hi,rfl⟩)))
      ·rw [if_neg ho];exact .inr (.inr (.inr (.inl ⟨20,by decide,rfl⟩)))
   ·rw [if_neg ha];exact .inr (.inr (.inr (.inl ⟨_,(z8l _ _).resolve_left ha,rfl⟩)))
theorem zvu {R R':Option Kq} {held:List UInt8} {a:Int} {d:List UInt8} (h:nxR R held= .ok a d R'):0≤5+hN held∧5+hN held≤(held.length:Int):=by
  have hn:=zli held
  refine ⟨by omega,?_⟩
  unfold nxR at h
  by_cases h5:held.length<5
  ·rw [if_pos h5] at h;cases h
  ·rw [if_neg h5] at h
   by_cases ha:hA held R.isSome= -1
   ·rw [if_pos ha] at h
    by_cases hs:(held.length:Int)<5+hN held
    ·rw [if_pos hs] at h;cases h
    ·omega
   ·rw [if_neg ha] at h;cases h
def kO:Option Kq→Kq
  |some k=>k
  |none=>⟨0,[],[],0⟩
def zqg:Spec:=fun args hp K=>match args,hp with
  | [.ptr 0 0 0 []],[.mk t0 [.int p,.ptr 1 0 0 [],.ptr 2 0 0 [],.str held,.int f],.mk tka [.int aw,.str akey,.str aiv,.int am],.mk tkb [.int bw,.str bkey,.str biv,.int bm]]=>Pre (zcu bw bkey biv bm∧held.length<9223372036854775808) (zv (decide (f= -1))
      (nxM (some ⟨bw,bkey,biv,bm⟩) held
        (fun k d R'=>K (.tup [.agg [.int k,.str d],.bool true,.int (-1)]) [.mk t0 [.int p,.ptr 1 0 0 [],.ptr 2 0 0 [],.str (hR held),.int (-1)],.mk tka [.int aw,.str akey,.str aiv,.int am],.mk tkb [.int (kO R').w,.str (kO R').key,.str (kO R').iv,.int (kO R').m]])
        (fun a=>K (.tup [.agg [.int 0,.str []],.bool false,.int a]) [.mk t0 [.int p,.ptr 1 0 0 [],.ptr 2 0 0 [],.str held,.int a],.mk tka [.int aw,.str akey,.str aiv,.int am],.mk tkb [.int bw,.str bkey,.str biv,.int bm]])
        (fun a=>K (.tup [.agg [.int 0,.str []],.bool false,.int a]) [.mk t0 [.int p,.ptr 1 0 0 [],.ptr 2 0 0 [],.str held,.int a],.mk tka [.int aw,.str akey,.str aiv,.int am],.mk tkb [.int bw,.str bkey,.str biv,.int (bm+1)]]))
      (K (.tup [.agg [.int 0,.str []],.bool false,.int f]) [.mk t0 [.int p,.ptr 1 0 0 [],.ptr 2 0 0 [],.str held,.int f],.mk tka [.int aw,.str akey,.str aiv,.int am],.mk tkb [.int bw,.str bkey,.str biv,.int bm]]))
  |_,_=>False
set_option maxHeartbeats 4000000 in
theorem z1e:zp prog 22 zqg:=z1o z5s (by
  intro args hp K h
  unfold zqg at h
  split at h
  ·rename_i t0 p held f tka aw akey aiv am tkb bw bkey biv bm
   obtain ⟨hpre,h⟩:=zm h
   unfold zpq
   refine zr hpre ?_
   obtain ⟨ht,hf⟩:=zt h
   refine za9 (fun e=>?_) (fun e=>hf e)
   have h:=ht e
   clear ht hf
   unfold nxM zr5 at h
   obtain ⟨ht,hf⟩:=zt h
   refine za9 (fun e=>ht e) (fun e=>?_)
   obtain ⟨ht,hf⟩:=zt (hf e)
   refine za9 (fun e=>?_) (fun e=>hf e)
   obtain ⟨ht,hf⟩:=zt (ht e)
   refine za9 (fun e=>ht e) (fun e=>?_)
   obtain ⟨ht,hf⟩:=zt (hf e)
   refine za9 (fun e=>ht e) (fun e=>?_)
   obtain ⟨ht,hf⟩:=zt (hf e)
   refine za9 (fun e=>?_) (fun e=>hf (decide_eq_false (of_decide_eq_false e)))
   obtain ⟨ht,hf⟩:=zt (ht (decide_eq_true (of_decide_eq_true e)))
   exact za9 (fun e=>ht e) (fun e=>hf e)
  ·exact h.elim)
end Go.Sym.Z
