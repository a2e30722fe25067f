/-
  Contracts of functions of the program, each said of symbolic values, and plain laws; no condition beyond each statement's own.
-/
import Derived.Test.YtmmpgjcpielefaaGreatG31
set_option linter.unusedSimpArgs false
set_option linter.unusedVariables false
namespace Go.Sym.Z
open Go Go.Proofs.Tryz Go.Sym.Lp Go.Sym.Ring Go.Sym.Cha Go.Sym.Sha Go.Sym.Hk
set_option maxRecDepth 100000
attribute [local irreducible] zaf exF kyF ivF y0 xo yw inL ncF hdF lnz iA two zbe zf iK inO inT
def yb0:List (Nat×List PStep):= []
def yay:List (Nat×List PStep):= [(4,[⟨0,[]⟩,⟨1,[0]⟩,⟨2,[0]⟩,⟨3,[0]⟩,⟨4,[0]⟩,⟨5,[1,2,3,4]⟩,⟨6,[1,2,3,4]⟩,⟨7,[]⟩])]
theorem zys (h:List UInt8) (i:Nat) (hi:i<5):(h.take 5).getD i 0=h.getD i 0:=by
  rw [List.getD_eq_getElem?_getD,List.getElem?_take,if_pos hi,←List.getD_eq_getElem?_getD]
theorem z82 (h:List UInt8):hK (h.take 5)=hK h:=by unfold hK;rw [zys h 0 (by decide)]
theorem z44 (h:List UInt8):hN (h.take 5)=hN h:=by unfold hN;rw [zys h 3 (by decide),zys h 4 (by decide)]
theorem z7g (h:List UInt8) (k:Bool):hA (h.take 5) k=hA h k:=by unfold hA;rw [z82,z44]
theorem zgx {l:List UInt8} {n:Nat} {b h k:Int} (hl:l.length=n) (hb:0≤b) (hb':b<n) (hh:0≤h) (hh':h≤n) (hk:0≤k) (hk':k≤h):zf l ((b+k).tmod n).toNat (h-k).toNat=(zf l b.toNat h.toNat).drop k.toNat:=by
  have e0:((b+k).tmod n).toNat=(b.toNat+k.toNat)%n:=by rw [zc1 (by omega)];congr 1;omega
  have e1:(h-k).toNat=h.toNat-k.toNat:=by omega
  rw [e0,e1]
  subst hl
  exact zo3 (by omega) (by omega) (by omega)
def nxM (R:Option Kq) (held:List UInt8) (ok:Int→List UInt8→Option Kq→Prop) (no bad:Int→Prop):Prop:=
  yg (decide (held.length<5)) (no (-1)) (yg (decide (hA held R.isSome= -1)) (yg (decide ((held.length:Int)<5+hN held)) (no (-1)) (zuu R (hK held) (held.take 5) (hT held) (fun k d=>ok k d R) (fun k d=>ok k d (upK R)) no bad)) (no (hA held R.isSome)))
def zo6:Spec:=fun args hp K=>match args with
  | [.ptr 0 0 0 []]=>stM hp fun p W R f n b h l=>Pre (yj n n n l b h∧wOK R) (nxM R (zf l b.toNat h.toNat)
        (fun k d R'=>x9 fun l':List UInt8=>(l'.length=n∧zf l' ((b+(5+hN (zf l b.toNat h.toNat))).tmod n).toNat (h-(5+hN (zf l b.toNat h.toNat))).toNat=hR (zf l b.toNat h.toNat))→K (.tup [.agg [.int k,.str d],.bool true,.int (-1)]) (stH p W R' f n ((b+(5+hN (zf l b.toNat h.toNat))).tmod n) (h-(5+hN (zf l b.toNat h.toNat))) l'))
        (fun a=>K (.tup [.agg [.int 0,.str []],.bool false,.int a]) (stH p W R f n b h l))
        (fun a=>x9 fun l':List UInt8=>l'.length=n→K (.tup [.agg [.int 0,.str []],.bool false,.int a]) (stH p W (upK R) f n b h l')))
  |_=>False
set_option maxHeartbeats 16000000 in
theorem zzz:zp prog 61 zo6:=by
  refine zl x6 (ze zvy (ze z62 (ze zyz (ze z3b (ze z4t zg))))) rfl func61 rfl call61 (D:=yb0) ?_ ?_
  ·intro args hp K h
   unfold zo6 at h
   split at h
   ·exact Nat.le_of_ble_eq_true rfl
   ·exact h.elim
  ·intro args hp K h
   unfold zo6 at h
   split at h
   ·obtain ⟨t0,t1,t2,t3,t4,p,W,R,f,n,b,hh,l,ehp,h9⟩:=zdx h
    clear h
    subst ehp
    obtain ⟨⟨h0,hok⟩,h⟩:=zi h9
    clear h9
    have h0':=h0
    unfold yj at h0'
    have hln:l.length=n:=by omega
    have hcl:(zf l b.toNat hh.toNat).length=hh.toNat:=xt (by omega) (by omega)
    have hdE:List.take (Int.toNat 5) (List.drop (Int.toNat 0) (zf l b.toNat hh.toNat))=List.take 5 (zf l b.toNat hh.toNat):=rfl
    have hKe:=z82 (zf l b.toNat hh.toNat)
    have hNe:=z44 (zf l b.toNat hh.toNat)
    have hAe:=z7g (zf l b.toNat hh.toNat)
    have hNb:=z16 (zf l b.toNat hh.toNat)
    obtain ⟨ht,hf⟩:=yc h
    clear h
    by_cases h5:(zf l b.toNat hh.toNat).length<5
    ·have h:=ht (decide_eq_true h5)
     have dpk:decide ((0:Int)≤0∧(0:Int)≤5∧0≤hh∧5≤hh-0)=false:=decide_eq_false (by omega)
     rcases R with _|⟨bw,bk,bi,bm⟩<;>rcases W with _|⟨aw,ak,ai,am⟩
     all_goals (
       dsimp only [zav]
       repeat ((conv=>whnf);first|refine zy ?_|refine zk ?_|refine zj ?_|refine zc ?_|refine zv (by first|exact dpk|(rw [dpk];rfl)) ?_|refine zr (by first|exact dpk|(rw [dpk];rfl)) ?_|refine zq (by first|exact dpk|(rw [dpk];rfl)) ?_)
       conv=>whnf
       refine yy h ?_
       exact zo)
    ·have h:=hf (decide_eq_false h5)
     have dpk:decide ((0:Int)≤0∧(0:Int)≤5∧0≤hh∧5≤hh-0)=true:=decide_eq_true (by omega)
     have hl5:(List.take 5 (zf l b.toNat hh.toNat)).length=5:=by rw [List.length_take,hcl];omega
     have hph:5≤(List.take (Int.toNat 5) (List.drop (Int.toNat 0) (zf l b.toNat hh.toNat))).length∧(List.take (Int.toNat 5) (List.drop (Int.toNat 0) (zf l b.toNat hh.toNat))).length<9223372036854775808:=by rw [hdE,hl5];decide
     clear ht hf
     obtain ⟨ht,hf⟩:=yc h
     clear h
     rcases R with _|⟨bw,bk,bi,bm⟩
     ·have hAk:hA (zf l b.toNat hh.toNat) false=hA (zf l b.toNat hh.toNat) (Option.isSome (none:Option Kq)):=rfl
      by_cases ha:hA (zf l b.toNat hh.toNat) false= -1
      ·have h:=ht (decide_eq_true ha)
       have e1:decide (hA (List.take (Int.toNat 5) (List.drop (Int.toNat 0) (zf l b.toNat hh.toNat))) false= -1)=true:=decide_eq_true (by rw [hdE,hAe];exact ha)
       have hn16:=z5h ha
       clear ht hf
       obtain ⟨ht,hf⟩:=yc h
       clear h
       by_cases hs:((zf l b.toNat hh.toNat).length:Int)<5+hN (zf l b.toNat hh.toNat)
       ·have h:=ht (decide_eq_true hs)
        rcases W with _|⟨aw,ak,ai,am⟩
        all_goals (
          dsimp only [zav]
          repeat ((conv=>whnf);first|refine zy ?_|refine zk ?_|refine zj ?_|refine zc ?_|refine zv (by first|exact dpk|(rw [dpk];rfl)|exact e1|(rw [e1];rfl)) ?_|refine zr (by first|exact dpk|(rw [dpk];rfl)|exact e1|(rw [e1];rfl)) ?_|refine zq (by first|exact dpk|(rw [dpk];rfl)|exact e1|(rw [e1];rfl)) ?_)
          conv=>whnf
          rw [hdE,hKe,hNe]
          refine za ?_
          refine yy h ?_
          exact zo)
       ·have h:=hf (decide_eq_false hs)
        clear ht hf
        have hpre:yj n n n l b hh∧0≤hN (zf l b.toNat hh.toNat)∧5+hN (zf l b.toNat hh.toNat)≤hh∧hN (zf l b.toNat hh.toNat)≤16640∧wOK (none)∧(List.take 5 (zf l b.toNat hh.toNat)).length≤100:=⟨h0,by omega,by omega,by omega,hok,by omega⟩
        have hdrop: ∀l':List UInt8,l'.length=n→yj n n n l' b hh∧0≤5+hN (zf l b.toNat hh.toNat)∧5+hN (zf l b.toNat hh.toNat)≤hh:=fun l' h=>⟨zlu h0 h,by omega,by omega⟩
        have hcn: ∀l':List UInt8,l'.length=n→(zf l' b.toNat hh.toNat).drop (5+(hN (zf l b.toNat hh.toNat)).toNat)=(zf l b.toNat hh.toNat).drop (5+(hN (zf l b.toNat hh.toNat)).toNat)→zf l' ((b+(5+hN (zf l b.toNat hh.toNat))).tmod n).toNat (hh-(5+hN (zf l b.toNat hh.toNat))).toNat=hR (zf l b.toNat hh.toNat):=fun l' h e=>by
          rw [zgx h (by omega) (by omega) (by omega) (by omega) (by omega) (by omega),show (5+hN (zf l b.toNat hh.toNat)).toNat=5+(hN (zf l b.toNat hh.toNat)).toNat by omega,e]
          rfl
        have hsame:=hcn l hln rfl
        have hdr:=hdrop l hln
        rcases W with _|⟨aw,ak,ai,am⟩
        all_goals (
          dsimp only [zav]
          repeat ((conv=>whnf);first|refine zy ?_|refine zk ?_|refine zj ?_|refine zc ?_|refine zv (by first|exact dpk|(rw [dpk];rfl)|exact e1|(rw [e1];rfl)) ?_|refine zr (by first|exact dpk|(rw [dpk];rfl)|exact e1|(rw [e1];rfl)) ?_|refine zq (by first|exact dpk|(rw [dpk];rfl)|exact e1|(rw [e1];rfl)) ?_)
          conv=>whnf
          rw [hdE,hKe,hNe]
          refine za ?_
          refine yy (xj h _ ⟨hln,hsame⟩) ?_
          exact zo)
      ·have h:=hf (decide_eq_false ha)
       have e1:decide (hA (List.take (Int.toNat 5) (List.drop (Int.toNat 0) (zf l b.toNat hh.toNat))) false= -1)=false:=decide_eq_false (by rw [hdE,hAe];exact ha)
       have eA:hA (List.take (Int.toNat 5) (List.drop (Int.toNat 0) (zf l b.toNat hh.toNat))) (!true)=hA (zf l b.toNat hh.toNat) false:=by rw [hdE,hAe];rfl
       have e2:decide (hA (zf l b.toNat hh.toNat) false= -1)=false:=decide_eq_false ha
       rcases W with _|⟨aw,ak,ai,am⟩
       all_goals (
         dsimp only [zav]
         repeat ((conv=>whnf);first|refine zy ?_|refine zk ?_|refine zj ?_|refine zc ?_|refine zv (by first|exact dpk|(rw [dpk];rfl)|exact e1|(rw [e1];rfl)) ?_|refine zr (by first|exact dpk|(rw [dpk];rfl)|exact e1|(rw [e1];rfl)) ?_|refine zq (by first|exact dpk|(rw [dpk];rfl)|exact e1|(rw [e1];rfl)) ?_)
         conv=>whnf
         rw [eA]
         repeat ((conv=>whnf);first|refine zy ?_|refine zk ?_|refine zj ?_|refine zc ?_|refine zv (by first|exact e2|(rw [e2];rfl)) ?_|refine zr (by first|exact e2|(rw [e2];rfl)) ?_|refine zq (by first|exact e2|(rw [e2];rfl)) ?_)
         conv=>whnf
         refine yy h ?_
         exact zo)
     ·have hAk:hA (zf l b.toNat hh.toNat) true=hA (zf l b.toNat hh.toNat) (Option.isSome (some (Kq.mk bw bk bi bm))):=rfl
      by_cases ha:hA (zf l b.toNat hh.toNat) true= -1
      ·have h:=ht (decide_eq_true ha)
       have e1:decide (hA (List.take (Int.toNat 5) (List.drop (Int.toNat 0) (zf l b.toNat hh.toNat))) true= -1)=true:=decide_eq_true (by rw [hdE,hAe];exact ha)
       have hn16:=z5h ha
       clear ht hf
       obtain ⟨ht,hf⟩:=yc h
       clear h
       by_cases hs:((zf l b.toNat hh.toNat).length:Int)<5+hN (zf l b.toNat hh.toNat)
       ·have h:=ht (decide_eq_true hs)
        rcases W with _|⟨aw,ak,ai,am⟩
        all_goals (
          dsimp only [zav]
          repeat ((conv=>whnf);first|refine zy ?_|refine zk ?_|refine zj ?_|refine zc ?_|refine zv (by first|exact dpk|(rw [dpk];rfl)|exact e1|(rw [e1];rfl)) ?_|refine zr (by first|exact dpk|(rw [dpk];rfl)|exact e1|(rw [e1];rfl)) ?_|refine zq (by first|exact dpk|(rw [dpk];rfl)|exact e1|(rw [e1];rfl)) ?_)
          conv=>whnf
          rw [hdE,hKe,hNe]
          refine za ?_
          refine yy h ?_
          exact zo)
       ·have h:=hf (decide_eq_false hs)
        clear ht hf
        have hpre:yj n n n l b hh∧0≤hN (zf l b.toNat hh.toNat)∧5+hN (zf l b.toNat hh.toNat)≤hh∧hN (zf l b.toNat hh.toNat)≤16640∧wOK (some ⟨bw,bk,bi,bm⟩)∧(List.take 5 (zf l b.toNat hh.toNat)).length≤100:=⟨h0,by omega,by omega,by omega,hok,by omega⟩
        have hdrop: ∀l':List UInt8,l'.length=n→yj n n n l' b hh∧0≤5+hN (zf l b.toNat hh.toNat)∧5+hN (zf l b.toNat hh.toNat)≤hh:=fun l' h=>⟨zlu h0 h,by omega,by omega⟩
        have hcn: ∀l':List UInt8,l'.length=n→(zf l' b.toNat hh.toNat).drop (5+(hN (zf l b.toNat hh.toNat)).toNat)=(zf l b.toNat hh.toNat).drop (5+(hN (zf l b.toNat hh.toNat)).toNat)→zf l' ((b+(5+hN (zf l b.toNat hh.toNat))).tmod n).toNat (hh-(5+hN (zf l b.toNat hh.toNat))).toNat=hR (zf l b.toNat hh.toNat):=fun l' h e=>by
          rw [zgx h (by omega) (by omega) (by omega) (by omega) (by omega) (by omega),show (5+hN (zf l b.toNat hh.toNat)).toNat=5+(hN (zf l b.toNat hh.toNat)).toNat by omega,e]
          rfl
        have hsame:=hcn l hln rfl
        have hdr:=hdrop l hln
        obtain ⟨ht,hf⟩:=yc h
        clear h
        by_cases hk:hK (zf l b.toNat hh.toNat)=20
        ·have h:=ht (decide_eq_true hk)
         have d20:=decide_eq_true hk
         rcases W with _|⟨aw,ak,ai,am⟩
         all_goals (
           dsimp only [zav]
           repeat ((conv=>whnf);first|refine zy ?_|refine zk ?_|refine zj ?_|refine zc ?_|refine zv (by first|exact dpk|(rw [dpk];rfl)|exact e1|(rw [e1];rfl)) ?_|refine zr (by first|exact dpk|(rw [dpk];rfl)|exact e1|(rw [e1];rfl)) ?_|refine zq (by first|exact dpk|(rw [dpk];rfl)|exact e1|(rw [e1];rfl)) ?_)
           conv=>whnf
           rw [hdE,hKe,hNe]
           repeat ((conv=>whnf);first|refine zy ?_|refine zk ?_|refine zj ?_|refine zc ?_|refine zv (by first|exact d20|(rw [d20];rfl)) ?_|refine zr (by first|exact d20|(rw [d20];rfl)) ?_|refine zq (by first|exact d20|(rw [d20];rfl)) ?_)
           conv=>whnf
           refine yy (xj h _ ⟨hln,hsame⟩) ?_
           exact zo)
        ·have h:=hf (decide_eq_false hk)
         have d20:=decide_eq_false hk
         clear ht hf
         obtain ⟨ht,hf⟩:=yc h
         clear h
         by_cases hop:inO ⟨bw,bk,bi,bm⟩ (List.take 5 (zf l b.toNat hh.toNat)) (hT (zf l b.toNat hh.toNat))
         ·have h:=ht (decide_eq_true hop)
          have dop:decide (inO ⟨bw,bk,bi,bm⟩ (List.take 5 (zf l b.toNat hh.toNat)) (List.take (hN (zf l b.toNat hh.toNat)).toNat (List.drop 5 (zf l b.toNat hh.toNat))))=true:=decide_eq_true hop
          clear ht hf
          obtain ⟨ht,hf⟩:=yc h
          clear h
          by_cases hi:iA (inT ⟨bw,bk,bi,bm⟩ (hT (zf l b.toNat hh.toNat)))= -1
          ·have h:=ht (decide_eq_true hi)
           have di:decide (iA (inT ⟨bw,bk,bi,bm⟩ (List.take (hN (zf l b.toNat hh.toNat)).toNat (List.drop 5 (zf l b.toNat hh.toNat))))= -1)=true:=decide_eq_true hi
           rcases W with _|⟨aw,ak,ai,am⟩
           all_goals (
             dsimp only [zav]
             repeat ((conv=>whnf);first|refine zy ?_|refine zk ?_|refine zj ?_|refine zc ?_|refine zv (by first|exact dpk|(rw [dpk];rfl)|exact e1|(rw [e1];rfl)) ?_|refine zr (by first|exact dpk|(rw [dpk];rfl)|exact e1|(rw [e1];rfl)) ?_|refine zq (by first|exact dpk|(rw [dpk];rfl)|exact e1|(rw [e1];rfl)) ?_)
             conv=>whnf
             rw [hdE,hKe,hNe]
             repeat ((conv=>whnf);first|refine zy ?_|refine zk ?_|refine zj ?_|refine zc ?_|refine zv (by first|exact d20|(rw [d20];rfl)|exact dop|(rw [dop];rfl)|exact di|(rw [di];rfl)) ?_|refine zr (by first|exact d20|(rw [d20];rfl)|exact dop|(rw [dop];rfl)|exact di|(rw [di];rfl)) ?_|refine zq (by first|exact d20|(rw [d20];rfl)|exact dop|(rw [dop];rfl)|exact di|(rw [di];rfl)) ?_)
             conv=>whnf
             refine yf fun l' hl'=>?_
             have hdr':=hdrop l' hl'.1
             refine za ?_
             refine yy (xj h l' ⟨hl'.1,hcn l' hl'.1 hl'.2⟩) ?_
             exact zo)
          ·have h:=hf (decide_eq_false hi)
           have di:decide (iA (inT ⟨bw,bk,bi,bm⟩ (List.take (hN (zf l b.toNat hh.toNat)).toNat (List.drop 5 (zf l b.toNat hh.toNat))))= -1)=false:=decide_eq_false hi
           rcases W with _|⟨aw,ak,ai,am⟩
           all_goals (
             dsimp only [zav]
             repeat ((conv=>whnf);first|refine zy ?_|refine zk ?_|refine zj ?_|refine zc ?_|refine zv (by first|exact dpk|(rw [dpk];rfl)|exact e1|(rw [e1];rfl)) ?_|refine zr (by first|exact dpk|(rw [dpk];rfl)|exact e1|(rw [e1];rfl)) ?_|refine zq (by first|exact dpk|(rw [dpk];rfl)|exact e1|(rw [e1];rfl)) ?_)
             conv=>whnf
             rw [hdE,hKe,hNe]
             repeat ((conv=>whnf);first|refine zy ?_|refine zk ?_|refine zj ?_|refine zc ?_|refine zv (by first|exact d20|(rw [d20];rfl)|exact dop|(rw [dop];rfl)|exact di|(rw [di];rfl)) ?_|refine zr (by first|exact d20|(rw [d20];rfl)|exact dop|(rw [dop];rfl)|exact di|(rw [di];rfl)) ?_|refine zq (by first|exact d20|(rw [d20];rfl)|exact dop|(rw [dop];rfl)|exact di|(rw [di];rfl)) ?_)
             conv=>whnf
             refine yf fun l' hl'=>?_
             repeat ((conv=>whnf);first|refine zy ?_|refine zk ?_|refine zj ?_|refine zc ?_|refine zv (by first|exact di|(rw [di];rfl)) ?_|refine zr (by first|exact di|(rw [di];rfl)) ?_|refine zq (by first|exact di|(rw [di];rfl)) ?_)
             conv=>whnf
             refine yy (xj h l' hl') ?_
             exact zo)
         ·have h:=hf (decide_eq_false hop)
          have dop:decide (inO ⟨bw,bk,bi,bm⟩ (List.take 5 (zf l b.toNat hh.toNat)) (List.take (hN (zf l b.toNat hh.toNat)).toNat (List.drop 5 (zf l b.toNat hh.toNat))))=false:=decide_eq_false hop
          rcases W with _|⟨aw,ak,ai,am⟩
          all_goals (
            dsimp only [zav]
            repeat ((conv=>whnf);first|refine zy ?_|refine zk ?_|refine zj ?_|refine zc ?_|refine zv (by first|exact dpk|(rw [dpk];rfl)|exact e1|(rw [e1];rfl)) ?_|refine zr (by first|exact dpk|(rw [dpk];rfl)|exact e1|(rw [e1];rfl)) ?_|refine zq (by first|exact dpk|(rw [dpk];rfl)|exact e1|(rw [e1];rfl)) ?_)
            conv=>whnf
            rw [hdE,hKe,hNe]
            repeat ((conv=>whnf);first|refine zy ?_|refine zk ?_|refine zj ?_|refine zc ?_|refine zv (by first|exact d20|(rw [d20];rfl)|exact dop|(rw [dop];rfl)) ?_|refine zr (by first|exact d20|(rw [d20];rfl)|exact dop|(rw [dop];rfl)) ?_|refine zq (by first|exact d20|(rw [d20];rfl)|exact dop|(rw [dop];rfl)) ?_)
            conv=>whnf
            refine yy h ?_
            exact zo)
      ·have h:=hf (decide_eq_false ha)
       have e1:decide (hA (List.take (Int.toNat 5) (List.drop (Int.toNat 0) (zf l b.toNat hh.toNat))) true= -1)=false:=decide_eq_false (by rw [hdE,hAe];exact ha)
       have eA:hA (List.take (Int.toNat 5) (List.drop (Int.toNat 0) (zf l b.toNat hh.toNat))) (!false)=hA (zf l b.toNat hh.toNat) true:=by rw [hdE,hAe];rfl
       have e2:decide (hA (zf l b.toNat hh.toNat) true= -1)=false:=decide_eq_false ha
       rcases W with _|⟨aw,ak,ai,am⟩
       all_goals (
         dsimp only [zav]
         repeat ((conv=>whnf);first|refine zy ?_|refine zk ?_|refine zj ?_|refine zc ?_|refine zv (by first|exact dpk|(rw [dpk];rfl)|exact e1|(rw [e1];rfl)) ?_|refine zr (by first|exact dpk|(rw [dpk];rfl)|exact e1|(rw [e1];rfl)) ?_|refine zq (by first|exact dpk|(rw [dpk];rfl)|exact e1|(rw [e1];rfl)) ?_)
         conv=>whnf
         rw [eA]
         repeat ((conv=>whnf);first|refine zy ?_|refine zk ?_|refine zj ?_|refine zc ?_|refine zv (by first|exact e2|(rw [e2];rfl)) ?_|refine zr (by first|exact e2|(rw [e2];rfl)) ?_|refine zq (by first|exact e2|(rw [e2];rfl)) ?_)
         conv=>whnf
         refine yy h ?_
         exact zo)
   ·exact h.elim
theorem ztu {R:Option Kq} {kind:Int} {hd r:List UInt8} {ok okN ok2 okN2:Int→List UInt8→Prop} {no bad no2 bad2:Int→Prop} (h:zuu R kind hd r ok okN no bad) (h1: ∀k d,ok k d→ok2 k d) (h2: ∀k d,okN k d→okN2 k d) (h3: ∀a,no a→no2 a) (h4: ∀a,bad a→bad2 a):zuu R kind hd r ok2 okN2 no2 bad2:=by
  cases R with
  |none=>exact h1 _ _ h
  |some k=>
   obtain ⟨ht,hf⟩:=yc h
   refine zfr (fun e=>h1 _ _ (ht e)) (fun e=>?_)
   obtain ⟨ht,hf⟩:=yc (hf e)
   refine zfr (fun e=>?_) (fun e=>h3 _ (hf e))
   obtain ⟨ht,hf⟩:=yc (ht e)
   exact zfr (fun e=>h2 _ _ (ht e)) (fun e=>h4 _ (hf e))
theorem z1n {R:Option Kq} {held:List UInt8} {ok ok2:Int→List UInt8→Option Kq→Prop} {no bad no2 bad2:Int→Prop} (h:nxM R held ok no bad) (h1: ∀k d R',R'.isSome=R.isSome→ok k d R'→ok2 k d R') (h3: ∀a,no a→no2 a) (h4: ∀a,bad a→bad2 a):nxM R held ok2 no2 bad2:=by
  obtain ⟨ht,hf⟩:=yc h
  refine zfr (fun e=>h3 _ (ht e)) (fun e=>?_)
  obtain ⟨ht,hf⟩:=yc (hf e)
  refine zfr (fun e=>?_) (fun e=>h3 _ (hf e))
  obtain ⟨ht,hf⟩:=yc (ht e)
  exact zfr (fun e=>h3 _ (ht e)) (fun e=>ztu (hf e) (fun k d=>h1 k d R rfl) (fun k d=>h1 k d (upK R) (by cases R<;>rfl)) h3 h4)
attribute [local irreducible] nxM
def zo5:Spec:=fun args hp K=>match args with
  | [.ptr 0 0 0 []]=>stM hp fun p W R f n b h l=>Pre (yj n n n l b h∧wOK R) (yg (decide (f= -1)) (nxM R (zf l b.toNat h.toNat)
        (fun k d R'=>x9 fun l':List UInt8=>(l'.length=n∧zf l' ((b+(5+hN (zf l b.toNat h.toNat))).tmod n).toNat (h-(5+hN (zf l b.toNat h.toNat))).toNat=hR (zf l b.toNat h.toNat))→K (.tup [.agg [.int k,.str d],.bool true,.int (-1)]) (stH p W R' (-1) n ((b+(5+hN (zf l b.toNat h.toNat))).tmod n) (h-(5+hN (zf l b.toNat h.toNat))) l'))
        (fun a=>K (.tup [.agg [.int 0,.str []],.bool false,.int a]) (stH p W R a n b h l))
        (fun a=>x9 fun l':List UInt8=>l'.length=n→K (.tup [.agg [.int 0,.str []],.bool false,.int a]) (stH p W (upK R) a n b h l'))) (K (.tup [.agg [.int 0,.str []],.bool false,.int f]) (stH p W R f n b h l)))
  |_=>False
set_option maxHeartbeats 16000000 in
theorem zul:zp prog 35 zo5:=by
  refine zl x6 (ze zzz zg) rfl func35 rfl call35 (D:=yay) ?_ ?_
  ·intro args hp K h
   unfold zo5 at h
   split at h
   ·exact Nat.le_of_ble_eq_true rfl
   ·exact h.elim
  ·intro args hp K h
   unfold zo5 at h
   split at h
   ·obtain ⟨t0,t1,t2,t3,t4,p,W,R,f,n,b,hh,l,ehp,h9⟩:=zdx h
    clear h
    subst ehp
    obtain ⟨hpre,h⟩:=zi h9
    clear h9
    obtain ⟨ht,hf⟩:=yc h
    clear h
    by_cases hfm:f= -1
    ·have h:=ht (decide_eq_true hfm)
     subst hfm
     rcases W with _|⟨aw,ak,ai,am⟩<;>rcases R with _|⟨bw,bk,bi,bm⟩
     all_goals (
       dsimp only [zav]
       refine za ?_
       refine z1n h ?_ ?_ ?_
       ·intro k d R' he h
        rcases R' with _|⟨bw,bk,bi,bm⟩
        all_goals first|(exact Bool.noConfusion (show false=true from he))|(exact Bool.noConfusion (show true=false from he))|(
          conv=>whnf
          refine yf fun l' hl'=>?_
          refine za ?_
          refine yy (xj h l' hl') ?_
          exact zo)
       ·intro a h
        refine za ?_
        refine yy h ?_
        exact zo
       ·intro a h
        conv=>whnf
        refine yf fun l' hl'=>?_
        refine za ?_
        refine yy (xj h l' hl') ?_
        exact zo)
    ·have h:=hf (decide_eq_false hfm)
     have d0:=decide_eq_false hfm
     rcases W with _|⟨aw,ak,ai,am⟩<;>rcases R with _|⟨bw,bk,bi,bm⟩
     all_goals (
       dsimp only [zav]
       repeat ((conv=>whnf);first|refine zy ?_|refine zk ?_|refine zj ?_|refine zc ?_|refine zv (by first|exact d0|(rw [d0];rfl)) ?_|refine zr (by first|exact d0|(rw [d0];rfl)) ?_|refine zq (by first|exact d0|(rw [d0];rfl)) ?_)
       conv=>whnf
       refine yy h ?_
       exact zo)
   ·exact h.elim
end Go.Sym.Z

namespace Go.Sym.Z
open Go Go.Proofs.Tryz Go.Sym.Lp Go.Sym.Ring Go.Sym.Cha Go.Sym.Sha Go.Sym.Hk Go.Sym.Gcm
set_option maxRecDepth 100000
def ybm:List (Nat×List PStep):= []
def z55:List (Nat×TyI):= [(3,ty3),(4,ty4),(5,ty5),(9,ty9),(48,zc6),(51,zcx),(113,zad),(99,x4),(103,zcv),(68,zg4),(70,zhj),(104,zcz),(97,zia),(56,zis),(121,zcy),(93,zg2),(43,zhk)]
theorem zo8: ∀t i,yz z55 t=some i→yn prog t i:=(zb ty3_ok (zb zbu (zb zby (zb zbz (zb zaw (zb za2 (zb zaq (zb zbp (zb ze3 (zb ziz (zb zh7 (zb zf7 (zb zkl (zb zko (zb ze7 (zb zif (zb zip zae)))))))))))))))))
attribute [local irreducible] zaf exF kyF ivF y0 xo yw inL ncF lnz iA hA hN hK yt zan hO hP hR hT iK hdF zf nxM zbh
def rst (n:Nat) (b h:Int) (l held:List UInt8):Prop:=yj n n n l b h∧zf l b.toNat h.toNat=held∧h=(held.length:Int)
theorem zf2 {n:Nat} {b h:Int} {l held:List UInt8} (hr:rst n b h l held):yj n n n l b h:=hr.1
theorem z2k {n:Nat} {b h:Int} {l held:List UInt8} (hr:rst n b h l held):zf l b.toNat h.toNat=held:=hr.2.1
theorem zx7 {n:Nat} {b h:Int} {l held:List UInt8} (hr:rst n b h l held):h=(held.length:Int)∧held.length≤n∧n≤1048576:=by
  obtain ⟨h1,h2,h3⟩:=hr
  unfold yj at h1
  omega
theorem zp4 {n:Nat} (h:1≤n∧n≤1048576):rst n 0 0 (List.replicate n 0) []:=by
  refine ⟨?_,?_,rfl⟩
  ·unfold yj;rw [List.length_replicate];omega
  ·exact List.length_eq_zero_iff.1 (xt (by rw [List.length_replicate];exact Nat.zero_le _) (Nat.zero_le _))
theorem z2z {n:Nat} {b h:Int} {l held:List UInt8} (hn:1≤n∧n≤1048576) (hl:l.length=n) (hb:0≤b∧b<n) (hh:0≤h∧h≤n) (hc:zf l b.toNat h.toNat=held):rst n b h l held:=by
  have e:h=(held.length:Int):=by rw [←hc,xt (by omega) (by omega)];omega
  exact ⟨by unfold yj;omega,hc,e⟩
theorem zix {n:Nat} {b h:Int} {l held l' s:List UInt8} (hr:rst n b h l held) (hl:l'.length=n∧zf l' b.toNat (h+min (s.length:Int) (n-h)).toNat=zf l b.toNat h.toNat++s.take (min (s.length:Int) (n-h)).toNat):
    rst n b (h+min (s.length:Int) (n-h)) l' (held++s.take (min (s.length:Int) (n-h)).toNat):=by
  have h1:=hr.1
  unfold yj at h1
  exact z2z (by omega) hl.1 (by omega) (by omega) (by rw [hl.2,hr.2.1])
theorem zse {n:Nat} {b h k:Int} {l held l':List UInt8} {x:List UInt8} (hr:rst n b h l held) (hk:0≤k∧k≤h) (hl:l'.length=n∧zf l' ((b+k).tmod n).toNat (h-k).toNat=x):rst n ((b+k).tmod n) (h-k) l' x:=by
  have h1:=hr.1
  unfold yj at h1
  exact z2z (by omega) hl.1 ⟨Int.tmod_nonneg _ (by omega),Int.tmod_lt_of_pos _ (by omega)⟩ (by omega) hl.2
inductive NxR where
  |ok (k:Int) (d:List UInt8) (R:Option Kq)
  |no (a:Int)
  |bad (a:Int)
def nxR (R:Option Kq) (held:List UInt8):NxR:=
  if held.length<5 then .no (-1) else if hA held R.isSome= -1 then (if (held.length:Int)<5+hN held then .no (-1) else match R with
   |none=> .ok (hK held) (hT held) none
   |some k=>if hK held=20 then .ok (hK held) (hT held) (some k) else if inO k (held.take 5) (hT held) then (if iA (inT k (hT held))= -1 then .ok (iK (inT k (hT held))) ((inT k (hT held)).take (lnz (inT k (hT held)) (inT k (hT held)).length-1)) (upK (some k)) else .bad (iA (inT k (hT held)))) else .no 20) else .no (hA held R.isSome)
def nxP (x:NxR) (ok:Int→List UInt8→Option Kq→Prop) (no bad:Int→Prop):Prop:=match x with
  | .ok k d R=>ok k d R
  | .no a=>no a
  | .bad a=>bad a
attribute [local semireducible] nxM in
theorem z1o {R:Option Kq} {held:List UInt8} {ok:Int→List UInt8→Option Kq→Prop} {no bad:Int→Prop} (h:nxP (nxR R held) ok no bad):nxM R held ok no bad:=by
  unfold nxM
  unfold nxR at h
  by_cases h5:held.length<5
  ·rw [if_pos h5] at h;exact zr (decide_eq_true h5) h
  ·rw [if_neg h5] at h
   refine zq (decide_eq_false h5) ?_
   by_cases ha:hA held R.isSome= -1
   ·rw [if_pos ha] at h
    refine zr (decide_eq_true ha) ?_
    by_cases hs:(held.length:Int)<5+hN held
    ·rw [if_pos hs] at h;exact zr (decide_eq_true hs) h
    ·rw [if_neg hs] at h
     refine zq (decide_eq_false hs) ?_
     cases R with
     |none=>exact h
     |some k=>
      dsimp only at h
      show yg _ _ _
      by_cases hk:hK held=20
      ·rw [if_pos hk] at h;exact zr (decide_eq_true hk) h
      ·rw [if_neg hk] at h
       refine zq (decide_eq_false hk) ?_
       by_cases ho:inO k (held.take 5) (hT held)
       ·rw [if_pos ho] at h
        refine zr (decide_eq_true ho) ?_
        by_cases hi:iA (inT k (hT held))= -1
        ·rw [if_pos hi] at h;exact zr (decide_eq_true hi) h
        ·rw [if_neg hi] at h;exact zq (decide_eq_false hi) h
       ·rw [if_neg ho] at h;exact zq (decide_eq_false ho) h
   ·rw [if_neg ha] at h;exact zq (decide_eq_false ha) h
def abS:List UInt8:= [22,3,3,0,2,97,98]
theorem z65:([]:List UInt8)++List.take (min ((zbh 0 none 22 [97,98]).length:Int) (((Int.toNat 33290:Nat):Int)-0)).toNat (zbh 0 none 22 [97,98])=abS:=by
  have e:zbh 0 none 22 [97,98]=abS:=by unfold zbh hdF abS;rfl
  rw [e];decide+kernel
theorem zpa:((zbh 0 none 22 [97,98]).length:Int)=7:=by
  have e:zbh 0 none 22 [97,98]=abS:=by unfold zbh hdF abS;rfl
  rw [e];decide+kernel
theorem z86:decide (hA abS false= -1)=true:=by unfold hA;decide+kernel
theorem zvd:hN abS=2:=by unfold hN;decide+kernel
theorem z9y:hK abS=22:=by unfold hK;decide+kernel
theorem yad:hT abS= [97,98]:=by unfold hT;rw [zvd];decide+kernel
theorem z8c:hR abS= []:=by unfold hR;rw [zvd];decide+kernel
theorem yao:nxR none abS= .ok 22 [97,98] none:=by
  have h5: ¬abS.length<5:=by decide
  unfold nxR
  rw [if_neg h5,if_pos (show hA abS (none:Option Kq).isSome= -1 from of_decide_eq_true z86),if_neg (by rw [zvd];decide)]
  dsimp only
  rw [z9y,yad]
def zkm:Spec:=fun args hp K=>match args,hp with
  | [],[]=>K (.bool true) []
  |_,_=>False
set_option maxHeartbeats 8000000 in
theorem z2t:zp prog 28 zkm:=by
  refine zl zo8 (ze z00 (ze zzm (ze zu6 (ze zv6 (ze zwb (ze zul zg)))))) rfl func28 rfl call28 (D:=ybm) ?_ ?_
  ·intro args hp K h
   unfold zkm at h
   split at h
   ·exact Nat.le_of_ble_eq_true rfl
   ·exact h.elim
  ·intro args hp K h
   unfold zkm at h
   split at h
   ·have hp1:wOK none∧(0:Int)≤0∧(0:Int)≤16384∧([97,98]:List UInt8).length≤140737488351232:=⟨trivial,by decide,by decide,by decide⟩
    have hr0:=zp4 (n:=Int.toNat 33290) (by decide)
    have hp2:yj (Int.toNat 33290) (Int.toNat 33290) (Int.toNat 33290) (List.replicate (Int.toNat 33290) 0) 0 0∧(zbh 0 none 22 [97,98]).length≤4611686018427387904:=⟨zf2 hr0,by have:=zpa;omega⟩
    refine za ?_
    refine yf fun l hl=>?_
    have hr1:=zix hr0 hl
    rw [z65] at hr1
    rw [zpa] at hr1
    rw [zpa]
    have hm:(0:Int)+min 7 (((Int.toNat 33290:Nat):Int)-0)=7:=by decide
    rw [hm] at hr1
    have hm2:min (7:Int) (((Int.toNat 33290:Nat):Int)-0)=7:=by decide
    rw [hm2]
    rw [show (0:Int)+7=7 from rfl]
    have hp3:yj (Int.toNat 33290) (Int.toNat 33290) (Int.toNat 33290) l 0 7∧wOK none:=⟨zf2 hr1,trivial⟩
    refine za ?_
    rw [z2k hr1]
    refine z1o ?_
    rw [yao,zvd,z8c]
    conv=>whnf
    refine yf fun l' hl'=>?_
    have e0:(7:Int)-(5+2)=0:=rfl
    have e1:((0:Int)+(5+2)).tmod ((Int.toNat 33290:Nat):Int)=7:=by decide
    rw [e0,e1]
    refine za ?_
    exact zm [] h
   ·exact h.elim
end Go.Sym.Z

namespace Go.Sym.Z
open Go Go.Proofs.Tryz Go.Sym.Lp Go.Sym.Ring Go.Sym.Cha Go.Sym.Sha Go.Sym.Hk Go.Sym.Gcm
set_option maxRecDepth 100000
def pl6:List (Nat×List PStep):= []
def zpq:List (Nat×Spec):= [(29,zux),(12,zvk),(32,zpv),(33,zph),(34,zpn),(35,zo5),(30,zh8),(31,zky),(39,zeh),(28,zkm)]
theorem zon: ∀f S,yz zpq f=some S→zp prog f S:=ze z00 (ze zzm (ze zu6 (ze zv6 (ze zwb (ze zul (ze zxs (ze zyn (ze z41 (ze z2t zg)))))))))
theorem zrg {p w:Int} {key iv:List UInt8} {m kind:Int} {s:List UInt8} (t:List UInt8) (hs:s.length≤16384) (hp:0≤p) (hk:kind=21∨kind=22∨kind=23):
    nxR (some ⟨w,key,iv,m⟩) (yt p w key iv m kind s++t)= .ok kind s (some ⟨w,key,iv,m+1⟩)∧hR (yt p w key iv m kind s++t)=t∧5+hN (yt p w key iv m kind s++t)=((yt p w key iv m kind s).length:Int):=by
  obtain ⟨h1,h2,h3,h4,h5,h6,h7⟩:=zru (w:=w) (key:=key) (iv:=iv) (m:=m) (kind:=kind) t hs hp
  obtain ⟨g1,g2,g3,g4⟩:=z4m hs hp hk
  have hl:=zgk (w:=w) (key:=key) (iv:=iv) (m:=m) (kind:=kind) hs hp
  have e5:5+hN (yt p w key iv m kind s++t)=((yt p w key iv m kind s).length:Int):=by
    have:=congrArg List.length h7
    unfold hR at this
    rw [List.length_drop,List.length_append] at this
    rw [List.length_append] at h4
    have:=z16 (yt p w key iv m kind s++t)
    omega
  generalize yt p w key iv m kind s++t=X at*
  refine ⟨?_,h7,e5⟩
  have h5':inO ⟨w,key,iv,m⟩ (X.take 5) (hT X):=h5
  have h6':inT ⟨w,key,iv,m⟩ (hT X)=zan p kind s:=h6
  unfold nxR
  rw [if_neg (by omega),if_pos (show hA X (some (Kq.mk w key iv m)).isSome= -1 from h2),if_neg (by omega)]
  dsimp only
  rw [if_neg (by omega),if_pos h5',h6',if_pos g3,g2,g4]
  rfl
attribute [local irreducible] zaf exF kyF ivF y0 xo yw inL ncF lnz iA hA hN hK yt zan hO hP hR hT iK hdF zf nxM nxR zbh
set_option maxHeartbeats 8000000 in
theorem znd (W:World) (size which:Int):
    zql (z4q f6.ntmps z55 zpq W []) pl6 (zji f6) f6.results.toList [.int size,.int which] [] (fun r _=>r= .bool true):=by
  have b1:=Go.Sym.Ib.ibits_and (a:=size) (m:=1023) (by decide) (by decide)
  have hu:(UInt64.ofInt which%UInt64.ofNat 3).toNat<3:=by rw [UInt64.toNat_mod];exact Nat.mod_lt _ (by decide)
  have hpw:(UInt64.ofInt which%UInt64.ofNat 3).toNat<9223372036854775808:=by omega
  refine za ?_
  generalize za5 BinOp.and size 1023=y at*
  have d1:decide (zkc 0 (33290+y))=true:=decide_eq_true (by unfold zkc;omega)
  have d2:decide (zkc 0 33290)=true:=by decide+kernel
  have d3:decide (zkc 0 33289)=false:=by decide+kernel
  have d4:decide (zkc 0 262145)=false:=by decide+kernel
  obtain ⟨k,hk⟩: ∃k:Nat,33290+y=(k:Int):=⟨(33290+y).toNat,by omega⟩
  have hkn:(33290+y).toNat=k:=by omega
  repeat ((conv=>whnf);first|refine zy ?_|refine zk ?_|refine zj ?_|refine zc ?_|refine zv (by first|exact d1|exact d2|exact d3|exact d4) ?_|refine zr (by first|exact d1|exact d2|exact d3|exact d4) ?_|refine zq (by first|exact d1|exact d2|exact d3|exact d4) ?_)
  conv=>whnf
  rw [hkn]
  generalize (UInt64.ofInt which%UInt64.ofNat 3).toNat=u at*
  have hsu:su (4865+(u:Int)):=by unfold su;omega
  have dsu:decide (su (4865+(u:Int)))=true:=decide_eq_true hsu
  generalize 4865+(u:Int)=w at*
  have hkl:=zuw w [107]
  have hivl:=zuz w [107]
  have hky:zrs w (kyF w [107]) (ivF w [107]) 0:=⟨hsu,hkl,hivl,by decide,by decide⟩
  obtain ⟨Z,hZ⟩: ∃Z,Z=List.take (Int.toNat 16384) (List.drop (off []) (List.replicate (Int.toNat 16384) (0:UInt8))):=⟨_,rfl⟩
  have hZl:Z.length=16384:=by rw [hZ];decide+kernel
  repeat ((conv=>whnf);first|refine zy ?_|refine zk ?_|refine zj ?_|refine zc ?_|refine zv (by first|exact dsu) ?_|refine zr (by first|exact dsu) ?_|refine zq (by first|exact dsu) ?_)
  conv=>whnf
  rw [←hZ]
  obtain ⟨S,hS⟩: ∃S,S=zbh 0 (some ⟨w,kyF w [107],ivF w [107],0⟩) 23 Z:=⟨_,rfl⟩
  have hSs:S=yt 0 w (kyF w [107]) (ivF w [107]) 0 23 Z:=by rw [hS];unfold zbh;rfl
  have hSl:S.length=16406:=by
    have e:=zgk (p:=0) (w:=w) (key:=kyF w [107]) (iv:=ivF w [107]) (m:=0) (kind:=23) (s:=Z) (by omega) (by decide)
    rw [←hSs,hZl] at e
    have e2:inL 0 ((16384:Nat):Int)=16385:=by unfold inL;decide+kernel
    rw [e2] at e
    omega
  rw [←hS]
  have hA2:(S++S).length=32812:=by rw [List.length_append];omega
  have hA3:(S++S++S).length=49218:=by rw [List.length_append];omega
  have hA4:(S++S++S++S).length=65624:=by rw [List.length_append];omega
  have hr0:=zp4 (n:=k) (by omega)
  have hp1:yj k k k (List.replicate k 0) 0 0∧(S++S++S++S).length≤4611686018427387904:=⟨zf2 hr0,by omega⟩
  refine za ?_
  refine yf fun l1 hl1=>?_
  have hr1:=zix hr0 hl1
  have hm1:min ((S++S++S++S).length:Int) ((k:Int)-0)=k:=by omega
  rw [hm1] at hr1
  rw [hm1]
  have hc1: []++List.take (k:Int).toNat (S++S++S++S)=S++List.take (k-16406) (S++S++S):=by
    rw [List.nil_append,Int.toNat_natCast,List.append_assoc,List.append_assoc,List.take_append,List.take_of_length_le (by omega),hSl,List.append_assoc]
  rw [hc1] at hr1
  have hp2:yj k k k l1 0 (0+(k:Int))∧([120]:List UInt8).length≤4611686018427387904:=⟨zf2 hr1,by decide⟩
  refine za ?_
  refine yf fun l2 hl2=>?_
  have hr2:=zix hr1 hl2
  have hm2:min ((([120]:List UInt8).length:Nat):Int) ((k:Int)-(0+(k:Int)))=0:=by
    have:(([120]:List UInt8).length:Nat)=1:=rfl
    omega
  rw [hm2] at hr2
  rw [hm2]
  have hz0:List.take (Int.toNat 0) ([120]:List UInt8)= []:=rfl
  rw [hz0,List.append_nil] at hr2
  obtain ⟨t,ht⟩: ∃t,t=List.take (k-16406) (S++S++S):=⟨_,rfl⟩
  have htl:t.length=k-16406:=by rw [ht,List.length_take];omega
  rw [←ht] at hr2
  obtain ⟨x1,x2,x3⟩:=zrg (w:=w) (key:=kyF w [107]) (iv:=ivF w [107]) (m:=0) (s:=Z) t (by omega) (show (0:Int)≤0 by decide) (.inr (.inr rfl))
  rw [←hSs] at x1 x2 x3
  rw [hSl] at x3
  have hp3:yj k k k l2 0 (0+(k:Int)+0)∧wOK (some ⟨w,kyF w [107],ivF w [107],0⟩):=⟨zf2 hr2,hky⟩
  refine za ?_
  rw [z2k hr2]
  refine z1o ?_
  rw [x1,x2,x3]
  conv=>whnf
  refine yf fun l3 hl3=>?_
  have hr3:=zse hr2 (by omega) hl3
  obtain ⟨ZK,hZK⟩: ∃ZK,ZK=List.take k (List.drop (off []) (List.replicate k (0:UInt8))):=⟨_,rfl⟩
  have hZKl:ZK.length=k:=by rw [hZK,List.length_take];show min k (List.drop 0 (List.replicate k (0:UInt8))).length=k;rw [List.drop_zero,List.length_replicate,Nat.min_self]
  have hp4:yj k k k l3 ((0+((16406:Nat):Int)).tmod k) (0+(k:Int)+0-((16406:Nat):Int))∧ZK.length≤4611686018427387904:=⟨zf2 hr3,by omega⟩
  refine za ?_
  rw [hkn,←hZK]
  refine za ?_
  refine yf fun l4 hl4=>?_
  have hm4:min (ZK.length:Int) ((k:Int)-(0+(k:Int)+0-((16406:Nat):Int)))=16406:=by omega
  rw [hm4]
  have hSi:((S.length:Nat):Int)=16406:=by omega
  have hZi:((Z.length:Nat):Int)=16384:=by omega
  refine za ?_
  refine yu (hp':= []) [] rfl ?_
  conv=>whnf
  exact zu (congrArg SV.bool (decide_eq_true rfl))
theorem zmz (W:World) (size:Int) (_: -9223372036854775808≤size∧size≤9223372036854775807) (which:Int) (_: -9223372036854775808≤which∧which≤9223372036854775807):
    zql (z4q f6.ntmps z55 zpq W []) pl6 (zji f6) f6.results.toList [.int size,.int which] [] (fun r _=>r= .bool true):=
  znd W size which
end Go.Sym.Z
