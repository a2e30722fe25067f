/-
  Contracts of functions of the program, each said of symbolic values, and plain laws; no condition beyond each statement's own.
-/
import Derived.Test.YtmmpgjcpielefaaGreatGLStreamActs6
set_option linter.unusedSimpArgs false
set_option linter.unusedVariables false
namespace Go.Sym
theorem zax: ∀{l:List Nat} {n:Nat},zbv l n=true↔n∈l
  | [],n=>by simp [zbv]
  |x ::xs,n=>by
   simp only [zbv]
   split
   ·rename_i e;have:=Nat.eq_of_beq_eq_true e;simp [this]
   ·rename_i e;have:=Nat.ne_of_beq_eq_false e;rw [zax];simp;intro h;exact absurd h.symm this
theorem zek {x:Nat} {xs:List Nat} (h:zf3 (x ::xs)=true):x∉xs∧zf3 xs=true:=by
  simp only [zf3] at h
  split at h
  ·cases h
  ·rename_i e;exact ⟨(fun hm=>by rw [zax.2 hm] at e;cases e),h⟩
theorem zkx: ∀{l:List Nat} {n:Nat},n∈l→l[zen l n]?=some n
  |x ::xs,n,h=>by
   simp only [zen]
   split
   ·rename_i e;simp [Nat.eq_of_beq_eq_true e]
   ·rename_i e
    have hne:=Nat.ne_of_beq_eq_false e
    rcases List.mem_cons.1 h with rfl|h
    ·exact absurd rfl hne
    ·simpa using zkx h
theorem zk2: ∀{l:List Nat} {i j k:Nat},zf3 l=true→l[i]?=some k→l[j]?=some k→i=j
  |x ::xs,0,0,_,_,_,_=>rfl
  |x ::xs,0,j+1,k,h,h1,h2=>by
   simp at h1 h2;subst h1
   exact absurd (List.mem_of_getElem? h2) (zek h).1
  |x ::xs,i+1,0,k,h,h1,h2=>by
   simp at h1 h2;subst h2
   exact absurd (List.mem_of_getElem? h1) (zek h).1
  |x ::xs,i+1,j+1,k,h,h1,h2=>by
   simp at h1 h2
   rw [zk2 (zek h).2 h1 h2]
theorem zel: ∀{l:List Nat} {n i k:Nat},l[i]?=some k→fwd l n i=k
  |x ::xs,n,0,k,h=>by simp at h;simp [fwd,h]
  |x ::xs,n,i+1,k,h=>by
   have h':xs[i]?=some k:=by simpa using h
   exact zel (l:=xs) h'
theorem zkq: ∀{l:List Nat} {n x:Nat},fwd l n (l.length+x)=n+x
  | [],n,x=>by simp [fwd]
  |y ::ys,n,x=>by
   rw [show (y ::ys).length+x=(ys.length+x)+1 by simp;omega]
   exact zkq (l:=ys)
theorem Blk.ren_mk {g:Nat→Nat} {b:Blk} {el:TypeId} {ps:List SV} (h:b.ren g= .mk el ps): ∃ps0,b= .mk el ps0∧ps=zdj g ps0:=by
  cases b with
  |dead=>cases h
  |mk e q=>simp only [Blk.ren,Blk.mk.injEq] at h;exact ⟨q,by rw [h.1],h.2.symm⟩
theorem zya {g:Nat→Nat}: ∀{new hp:List Blk} {K:List Blk→Prop},zrf.newK g new hp K→K (hp++new.map (Blk.ren g))
  | [],hp,K,h=>by
    have h':K hp:=h
    simpa using h'
  |b ::bs,hp,K,h=>by
   have:=zya (zc7 h)
   rw [List.append_assoc] at this
   exact this
theorem z0l {α:Type} (l:List α) (k:Nat→Prop):zkf l k=k l.length:=by
  unfold zkf
  split<;>rfl
theorem z15 {g:Nat→Nat}: ∀{ι:List Nat} {h' hp:List Blk} {K:List Blk→Prop},zf3 ι=true→zrf g ι h' hp K→
    ι.length≤h'.length∧ ∃hp',K hp'∧hp'.length=hp.length+(h'.length-ι.length)∧(∀k,k<hp.length→k∉ι→hp'[k]?=hp[k]?)∧
      (∀i k:Nat,∀b:Blk,ι[i]?=some k→h'[i]?=some b→hp'[k]?=some (b.ren g))∧(∀x:Nat,∀b:Blk,h'[ι.length+x]?=some b→hp'[hp.length+x]?=some (b.ren g))
  | [],h',hp,K,_,h=>by
    refine ⟨by simp,_,zya h,by simp,fun k hk _=>List.getElem?_append_left hk,fun i k b hi=>by simp at hi,fun x b hx=>?_⟩
    rw [List.getElem?_append_right (by omega)]
    simp at hx ⊢
    exact ⟨b,hx,rfl⟩
  |i ::is,[],hp,K,_,h=>h.elim
  |i ::is,b ::bs,hp,K,hn,h=>by
   obtain ⟨hni,hns⟩:=zek hn
   obtain ⟨hil,h⟩:=zes h
   obtain ⟨h1,hp',h2,h3,h4,h5,h6⟩:=z15 hns h
   refine ⟨by simpa using h1,hp',h2,by simp at h3 ⊢;omega,fun k hk hm=>?_,fun j k c hj hc=>?_,fun x c hx=>?_⟩
   ·rw [h4 k (by simpa using hk) (fun hm'=>hm (by simp [hm'])),List.getElem?_set_ne (fun e=>hm (by simp [e]))]
   ·cases j with
    |zero=>
     simp at hj hc
     subst hj;subst hc
     rw [h4 i (by simpa using hil) hni,List.getElem?_set_self hil]
    |succ j=>exact h5 j k c (by simpa using hj) (by simpa using hc)
   ·have:=h6 x c (by rw [show (i ::is).length+x=(is.length+x)+1 by simp;omega] at hx;simpa using hx)
    simpa using this
theorem zim {hp:List Blk} {g:Nat→Nat} {ι0:List Nat}: ∀{ι:List Nat} {K:List Blk→Prop},zgx hp g ι0 ι K→
    ∃h:List Blk,K h∧h.length=ι.length∧(∀i k:Nat,ι[i]?=some k→k<hp.length)∧
     ∀(i k:Nat) (el:TypeId) (ps:List SV),ι[i]?=some k→h[i]?=some (.mk el ps)→ ∃ps0,hp[k]?=some (.mk el ps0)∧ziv (zbv ι0) ps0=true∧ps=zdj g ps0
  | [],K,h=>⟨[],h,rfl,fun i k hi=>by simp at hi,fun i k el ps hi=>by simp at hi⟩
  |j ::is,K,h=>by
   unfold zgx at h
   have hh:=zdo h;clear h;obtain ⟨b,hb,h⟩:=hh
   have hjl:j<hp.length:=(List.getElem?_eq_some_iff.1 hb).1
   split at h
   ·rename_i el ps
    split at h
    ·rename_i hall
     obtain ⟨h',h1,h2,h3,h4⟩:=zim h
     refine ⟨_,h1,by simp [h2],fun i k hi=>?_,fun i k el' ps' hi hm=>?_⟩
     ·cases i with
      |zero=>simp at hi;omega
      |succ i=>exact h3 i k (by simpa using hi)
     ·cases i with
      |zero=>simp at hi hm;subst hi;obtain ⟨rfl,rfl⟩:=hm;exact ⟨ps,hb,hall,rfl⟩
      |succ i=>exact h4 i k el' ps' (by simpa using hi) (by simpa using hm)
    ·exact h.elim
   ·obtain ⟨h',h1,h2,h3,h4⟩:=zim h
    refine ⟨_,h1,by simp [h2],fun i k hi=>?_,fun i k el' ps' hi hm=>?_⟩
    ·cases i with
     |zero=>simp at hi;omega
     |succ i=>exact h3 i k (by simpa using hi)
    ·cases i with
     |zero=>simp at hm
     |succ i=>exact h4 i k el' ps' (by simpa using hi) (by simpa using hm)
mutual
theorem SV.all_of_ks {p:Nat→Prop}: ∀v:SV,v.ok p→v.ks= []→v.ok (fun _=>False)
  | .bool _,_,_=>trivial
  | .int _,_,_=>trivial
  | .u8 _,_,_=>trivial
  | .u16 _,_,_=>trivial
  | .u32 _,_,_=>trivial
  | .u64 _,_,_=>trivial
  | .str _,_,_=>trivial
  | .ptr ..,_,h=>by simp [SV.ks] at h
  | .nilptr,_,_=>trivial
  | .sl ..,_,h=>by simp [SV.ks] at h
  | .nilsl,_,_=>trivial
  | .func _ caps,h,h'=>by simp only [SV.ok,SV.ks] at h h' ⊢;exact zfi caps h h'
  | .nilfn,_,_=>trivial
  | .nilif,_,_=>trivial
  | .xptr _,_,_=>trivial
  | .xsl ..,h,_=>h
  | .iface _ v,h,h'=>by simp only [SV.ok,SV.ks] at h h' ⊢;exact SV.all_of_ks v h h'
  | .arr8 _ _,h,_=>h
  | .arr32 _ _,h,_=>h
  | .arr64 _ _,h,_=>h
  | .arri _ _,h,_=>h
  | .arrs _ _,h,_=>h
  | .tab _ _ _,h,_=>h
  | .agg ps,h,h'=>by simp only [SV.ok,SV.ks] at h h' ⊢;exact zfi ps h h'
  | .tup vs,h,h'=>by simp only [SV.ok,SV.ks] at h h' ⊢;exact zfi vs h h'
theorem zfi {p:Nat→Prop}: ∀vs:List SV,okL p vs→ksL vs= []→okL (fun _=>False) vs
  | [],_,_=>trivial
  |v ::vs,h,h'=>by
   simp only [ksL,List.append_eq_nil_iff] at h'
   exact ⟨SV.all_of_ks v h.1 h'.1,zfi vs h.2 h'.2⟩
end
section
variable {P:Program} {ρ:Nat→Nat} {hp:List Blk} {w:World}
theorem zxg (hr:HpRel ρ hp w) {f:FuncId} {S:Spec} (hS:zp P f S) {ι:List Nat} (hn:zf3 ι=true) {args:List SV} (ha:okL (· <hp.length) args) (hall:ziv (zbv ι) args=true)
    {h:List Blk} (hl:h.length=ι.length) (hlt: ∀i k:Nat,ι[i]?=some k→k<hp.length)
    (hsub: ∀(i k:Nat) (el:TypeId) (ps:List SV),ι[i]?=some k→h[i]?=some (.mk el ps)→ ∃ps0,hp[k]?=some (.mk el ps0)∧ziv (zbv ι) ps0=true∧ps=zdj (zen ι) ps0)
    {K:SV→List Blk→Prop} (hcall:S (zdj (zen ι) args) h fun r h'=>zrf (fwd ι hp.length) ι h' hp fun hp'=>K (r.ren (fwd ι hp.length)) hp'):
    zh6 P f (xf ρ args).toArray ρ hp w K:=by
  let ρ0:Nat→Nat:=fun j=>ρ (fwd ι hp.length j)
  have hback: ∀k,zbv ι k=true→fwd ι hp.length (zen ι k)=k:=fun k hk=>zel (zkx (zax.1 hk))
  have hidx: ∀k,zbv ι k=true→zen ι k<ι.length:=fun k hk=>(List.getElem?_eq_some_iff.1 (zkx (zax.1 hk))).1
  have hcell: ∀qs:List SV,∀p:Nat→Prop,okL p qs→ziv (zbv ι) qs=true→zw ρ0 (zdj (zen ι) qs)=zw ρ qs:=fun qs p hq hqa=>by
    rw [zb9]
    exact xy (p:=fun k=>zbv ι k=true) (fun k hk=>by show ρ (fwd ι hp.length (zen ι k))=ρ k;rw [hback k hk]) qs (zep qs hq hqa)
  have hden:xf ρ0 (zdj (zen ι) args)=xf ρ args:=by
    rw [zff]
    exact zcw (p:=fun k=>zbv ι k=true) (fun k hk=>by show ρ (fwd ι hp.length (zen ι k))=ρ k;rw [hback k hk]) args (zep args ha hall)
  have hρ0: ∀i k,ι[i]?=some k→ρ0 i=ρ k:=fun i k hi=>by show ρ (fwd ι hp.length i)=ρ k;rw [zel hi]
  have hι: ∀i,i<ι.length→ ∃k,ι[i]?=some k:=fun i hi=>⟨ι[i],List.getElem?_eq_getElem hi⟩
  have hrel:HpRel ρ0 h w:=by
    refine ⟨fun i el ps hi=>?_,fun i j el ps el' ps' hi hj he=>?_⟩
    ·have hil:i<ι.length:=by rw [←hl];exact (List.getElem?_eq_some_iff.1 hi).1
     obtain ⟨k,hk⟩:=hι i hil
     obtain ⟨ps0,h1,h2,h3⟩:=hsub i k el ps hk hi
     obtain ⟨g1,el',fz,g2,g3⟩:=hr.mem k el ps0 h1
     refine ⟨?_,el',fz,?_,?_⟩
     ·rw [h3,hl];exact zeo _ (fun k hk=>hidx k hk) ps0 (zep ps0 g1 h2)
     ·rw [hρ0 i k hk,h3,hcell ps0 _ g1 h2];exact g2
     ·rw [h3,hcell ps0 _ g1 h2];exact g3
    ·have hil:i<ι.length:=by rw [←hl];exact (List.getElem?_eq_some_iff.1 hi).1
     have hjl:j<ι.length:=by rw [←hl];exact (List.getElem?_eq_some_iff.1 hj).1
     obtain ⟨k,hk⟩:=hι i hil
     obtain ⟨k',hk'⟩:=hι j hjl
     obtain ⟨_,h1,_,_⟩:=hsub i k el ps hk hi
     obtain ⟨_,h1',_,_⟩:=hsub j k' el' ps' hk' hj
     rw [hρ0 i k hk,hρ0 j k' hk'] at he
     have:=hr.inj k k' _ _ _ _ h1 h1' he
     subst this
     exact zk2 hn hk hk'
  have hargs:okL (· <h.length) (zdj (zen ι) args):=by rw [hl];exact zeo _ (fun k hk=>hidx k hk) args (zep args ha hall)
  have hout:=hS _ h _ hcall ρ0 w hrel hargs
  rw [hden] at hout
  refine hout.mono fun r ρ' h' w' ⟨hK,hrok,hst⟩=>?_
  obtain ⟨hle,hp',hK,hlen,hkeep,hset,hnew⟩:=z15 hn hK
  let ρ1:Nat→Nat:=fun k=>if k<hp.length then ρ k else ρ' (ι.length+(k-hp.length))
  have hfwd: ∀i,ρ1 (fwd ι hp.length i)=ρ' i:=by
    intro i
    rcases Nat.lt_or_ge i ι.length with hi|hi
    ·obtain ⟨k,hk⟩:=hι i hi
     rw [zel hk]
     show (if k<hp.length then _ else _)=_
     rw [if_pos (hlt i k hk),hst.same i (by omega),hρ0 i k hk]
    ·obtain ⟨x,rfl⟩: ∃x,i=ι.length+x:=⟨i-ι.length,by omega⟩
     rw [zkq]
     show (if hp.length+x<hp.length then _ else _)=_
     rw [if_neg (by omega)]
     congr 1;omega
  have hfl: ∀i,i<h'.length→fwd ι hp.length i<hp'.length:=by
    intro i hi
    rcases Nat.lt_or_ge i ι.length with hi'|hi'
    ·obtain ⟨k,hk⟩:=hι i hi'
     rw [zel hk];have:=hlt i k hk;omega
    ·obtain ⟨x,rfl⟩: ∃x,i=ι.length+x:=⟨i-ι.length,by omega⟩
     rw [zkq];omega
  have hcells: ∀qs:List SV,zw ρ1 (zdj (fwd ι hp.length) qs)=zw ρ' qs:=fun qs=>by
    rw [zb9];congr 1;funext k;exact hfwd k
  have hfrom: ∀(k:Nat) (el:TypeId) (ps:List SV),hp'[k]?=some (.mk el ps)→
   (k<hp.length∧k∉ι∧hp[k]?=some (.mk el ps))∨ ∃(i:Nat) (ps0:List SV),h'[i]?=some (.mk el ps0)∧ps=zdj (fwd ι hp.length) ps0∧ρ1 k=ρ' i∧(i<ι.length→ι[i]?=some k)∧(ι.length≤i→k=hp.length+(i-ι.length)):=by
    intro k el ps hk
    have hkl:k<hp'.length:=(List.getElem?_eq_some_iff.1 hk).1
    rcases Nat.lt_or_ge k hp.length with hkh|hkh
    ·by_cases hm:k∈ι
     ·obtain ⟨i,hi⟩:=List.getElem?_of_mem hm
      have hil:i<ι.length:=(List.getElem?_eq_some_iff.1 hi).1
      have hb:h'[i]?=some (h'[i]'(by omega)):=List.getElem?_eq_getElem (by omega)
      have:=hset i k _ hi hb
      rw [hk] at this
      obtain ⟨ps0,e1,e2⟩:=Blk.ren_mk (Option.some.inj this).symm
      rw [e1] at hb
      refine .inr ⟨i,ps0,hb,e2,?_,fun _=>hi,fun h=>by omega⟩
      rw [←hfwd i,zel hi]
     ·exact .inl ⟨hkh,hm,by rw [←hkeep k hkh hm];exact hk⟩
    ·obtain ⟨x,rfl⟩: ∃x,k=hp.length+x:=⟨k-hp.length,by omega⟩
     have hb:h'[ι.length+x]?=some (h'[ι.length+x]'(by omega)):=List.getElem?_eq_getElem (by omega)
     have:=hnew x _ hb
     rw [hk] at this
     obtain ⟨ps0,e1,e2⟩:=Blk.ren_mk (Option.some.inj this).symm
     rw [e1] at hb
     refine .inr ⟨ι.length+x,ps0,hb,e2,?_,fun h=>by omega,fun _=>by omega⟩
     rw [←hfwd,zkq]
  have hfoot0: ∀b,zgq ρ0 h b→ ∃(i k:Nat) (el:TypeId) (ps:List SV),ι[i]?=some k∧hp[k]?=some (.mk el ps)∧ρ k=b:=by
    rintro b ⟨i,el,ps,hi,rfl⟩
    have hil:i<ι.length:=by rw [←hl];exact (List.getElem?_eq_some_iff.1 hi).1
    obtain ⟨k,hk⟩:=hι i hil
    obtain ⟨ps0,h1,_,_⟩:=hsub i k el ps hk hi
    exact ⟨i,k,el,ps0,hk,h1,(hρ0 i k hk).symm⟩
  have hfootT: ∀b,zgq ρ0 h b→zgq ρ hp b:=fun b hb=>by
    obtain ⟨i,k,el,ps,_,h1,h2⟩:=hfoot0 b hb
    exact ⟨k,el,ps,h1,h2⟩
  have hout0: ∀(k:Nat) (el:TypeId) (ps:List SV),hp[k]?=some (.mk el ps)→k∉ι→ ¬zgq ρ0 h (ρ k):=by
    intro k el ps hk hm hf
    obtain ⟨i,k',el',ps',hi,h1,h2⟩:=hfoot0 _ hf
    have:=hr.inj k' k _ _ _ _ h1 hk h2
    subst this
    exact hm (List.mem_of_getElem? hi)
  have hρ1: ∀k,k<hp.length→ρ1 k=ρ k:=fun k hk=>by show (if k<hp.length then _ else _)=_;rw [if_pos hk]
  have hlenle:hp.length≤hp'.length:=by omega
  refine ⟨r.ren (fwd ι hp.length),ρ1,hp',?_,hK,?_,⟨⟨?_,?_⟩,hρ1,hlenle,hst.ext.mono hfootT,?_⟩⟩
  ·rw [SV.den_ren];congr 1;funext k;exact hfwd k
  ·exact SV.ok_ren _ hfl r hrok
  ·intro k el ps hk
   rcases hfrom k el ps hk with ⟨hkh,hm,hk0⟩|⟨i,ps0,hi,rfl,he,_,_⟩
   ·obtain ⟨g1,el',fz,g2,g3⟩:=hr.mem k el ps hk0
    have hc:zw ρ1 ps=zw ρ ps:=xy (p:=(· <hp.length)) (fun k hk=>hρ1 k hk) ps g1
    refine ⟨yz (fun x hx=>Nat.lt_of_lt_of_le hx hlenle) ps g1,el',fz,?_,?_⟩
    ·rw [hρ1 k hkh,hc,hst.ext.keep _ (hr.lt hk0) (hout0 k el ps hk0 hm)];exact g2
    ·rw [hc];exact g3
   ·obtain ⟨g1,el',fz,g2,g3⟩:=hst.rel.mem i el ps0 hi
    refine ⟨zeo _ hfl ps0 g1,el',fz,?_,?_⟩
    ·rw [he,hcells];exact g2
    ·rw [hcells];exact g3
  ·intro k k' el ps el' ps' hk hk' he
   rcases hfrom k el ps hk with ⟨hkh,hm,hk0⟩|⟨i,ps0,hi,_,e1,e2,e3⟩<;>rcases hfrom k' el' ps' hk' with ⟨hkh',hm',hk0'⟩|⟨i',ps0',hi',_,e1',e2',e3'⟩
   ·rw [hρ1 k hkh,hρ1 k' hkh'] at he;exact hr.inj k k' _ _ _ _ hk0 hk0' he
   ·rw [hρ1 k hkh,e1'] at he
    rcases hst.foot (ρ' i') ⟨i',_,_,hi',rfl⟩ with hf|hf
    ·exact absurd (he ▸ hf) (hout0 k el ps hk0 hm)
    ·have:=hr.lt hk0;omega
   ·rw [hρ1 k' hkh',e1] at he
    rcases hst.foot (ρ' i) ⟨i,_,_,hi,rfl⟩ with hf|hf
    ·exact absurd (he ▸ hf) (hout0 k' el' ps' hk0' hm')
    ·have:=hr.lt hk0';omega
   ·rw [e1,e1'] at he
    have:=hst.rel.inj i i' _ _ _ _ hi hi' he
    subst this
    rcases Nat.lt_or_ge i ι.length with hil|hil
    ·have a:=e2 hil;have b:=e2' hil;rw [a] at b;exact Option.some.inj b
    ·rw [e3 hil,e3' hil]
  ·rintro b ⟨k,el,ps,hk,rfl⟩
   rcases hfrom k el ps hk with ⟨hkh,hm,hk0⟩|⟨i,ps0,hi,_,e1,_,_⟩
   ·rw [hρ1 k hkh];exact .inl ⟨k,el,ps,hk0,rfl⟩
   ·rw [e1]
    rcases hst.foot (ρ' i) ⟨i,_,_,hi,rfl⟩ with hf|hf
    ·exact .inl (hfootT _ hf)
    ·exact .inr hf
theorem yc8 (hr:HpRel ρ hp w) {f:FuncId} {S:Spec} (hS:zp P f S) {args:List SV} (ha:okL (· <hp.length) args) {K:SV→List Blk→Prop} (h:z79 S args hp K):
    zh6 P f (xf ρ args).toArray ρ hp w K:=by
  unfold z79 at h
  split at h
  ·rename_i hk
   have h0:=zfi args ha hk
   have hrel:HpRel ρ [] w:=⟨fun k el ps hk=>by simp at hk,fun k k' el ps el' ps' hk=>by simp at hk⟩
   have hout:=hS args [] _ h ρ w hrel (yz (fun _ hf=>hf.elim) args h0)
   refine hout.mono fun r ρ' h' w' ⟨hK,hrok,hst⟩=>?_
   have hext:Ext (zgq ρ hp) w w':=hst.ext.mono (fun b ⟨k,_,_,hk,_⟩=>by simp at hk)
   have hkeep: ∀(k:Nat) (el:TypeId) (ps:List SV),hp[k]?=some (.mk el ps)→w'.heap[ρ k]?=w.heap[ρ k]?:=fun k el ps hk=>hst.ext.keep _ (hr.lt hk) (fun ⟨k,_,_,hk,_⟩=>by simp at hk)
   dsimp only at hK
   split at hK
   ·split at hK
    ·rename_i hkr
     have hr0:r.ok (fun _=>False):=SV.all_of_ks r hrok (by simpa [ksL] using hkr)
     refine ⟨r,ρ,hp,SV.den_congr (fun _ hf=>hf.elim) r hr0,hK,SV.ok_mono (fun _ hf=>hf.elim) r hr0,⟨⟨fun k el ps hk=>?_,hr.inj⟩,fun _ _=>rfl,Nat.le_refl _,hext,fun b hb=> .inl hb⟩⟩
     obtain ⟨g1,el',fz,g2,g3⟩:=hr.mem k el ps hk
     exact ⟨g1,el',fz,by rw [hkeep k el ps hk];exact g2,g3⟩
    ·exact hK.elim
   ·have hK:=zev hK
    have h1:=zya hK
    clear hK
    let ρ1:Nat→Nat:=fun k=>if k<hp.length then ρ k else ρ' (k-hp.length)
    have hρ1: ∀k,k<hp.length→ρ1 k=ρ k:=fun k hk=>by show (if k<hp.length then _ else _)=_;rw [if_pos hk]
    have hρ2: ∀i,ρ1 (hp.length+i)=ρ' i:=fun i=>by show (if hp.length+i<hp.length then _ else _)=_;rw [if_neg (by omega)];congr 1;omega
    have hcells: ∀qs:List SV,zw ρ1 (zdj (fun i=>hp.length+i) qs)=zw ρ' qs:=fun qs=>by rw [zb9];congr 1;funext k;exact hρ2 k
    have hlen:(hp++h'.map (Blk.ren fun i=>hp.length+i)).length=hp.length+h'.length:=by simp
    have hfrom: ∀(k:Nat) (el:TypeId) (ps:List SV),(hp++h'.map (Blk.ren fun i=>hp.length+i))[k]?=some (.mk el ps)→
     (k<hp.length∧hp[k]?=some (.mk el ps))∨ ∃(i:Nat) (ps0:List SV),h'[i]?=some (.mk el ps0)∧ps=zdj (fun i=>hp.length+i) ps0∧k=hp.length+i:=by
      intro k el ps hk
      rcases Nat.lt_or_ge k hp.length with hkl|hkl
      ·rw [List.getElem?_append_left hkl] at hk;exact .inl ⟨hkl,hk⟩
      ·rw [List.getElem?_append_right hkl,List.getElem?_map] at hk
       cases hb:h'[k-hp.length]? with
       |none=>rw [hb] at hk;simp at hk
       |some b=>
        rw [hb] at hk
        obtain ⟨ps0,e1,e2⟩:=Blk.ren_mk (Option.some.inj hk)
        exact .inr ⟨k-hp.length,ps0,by rw [hb,e1],e2,by omega⟩
    refine ⟨_,ρ1,_,?_,h1,?_,⟨⟨fun k el ps hk=>?_,fun k k' el ps el' ps' hk hk' he=>?_⟩,hρ1,by omega,hext,?_⟩⟩
    ·rw [SV.den_ren];congr 1;funext k;exact hρ2 k
    ·rw [hlen];exact SV.ok_ren _ (fun k hk=>by omega) r hrok
    ·rcases hfrom k el ps hk with ⟨hkl,hk0⟩|⟨i,ps0,hi,rfl,rfl⟩
     ·obtain ⟨g1,el',fz,g2,g3⟩:=hr.mem k el ps hk0
      have hc:zw ρ1 ps=zw ρ ps:=xy (p:=(· <hp.length)) (fun k hk=>hρ1 k hk) ps g1
      exact ⟨yz (fun x hx=>by rw [hlen];omega) ps g1,el',fz,by rw [hρ1 k hkl,hc,hkeep k el ps hk0];exact g2,by rw [hc];exact g3⟩
     ·obtain ⟨g1,el',fz,g2,g3⟩:=hst.rel.mem i el ps0 hi
      exact ⟨zeo _ (fun k hk=>by rw [hlen];omega) ps0 g1,el',fz,by rw [hρ2,hcells];exact g2,by rw [hcells];exact g3⟩
    ·rcases hfrom k el ps hk with ⟨hkl,hk0⟩|⟨i,ps0,hi,_,rfl⟩<;>rcases hfrom k' el' ps' hk' with ⟨hkl',hk0'⟩|⟨i',ps0',hi',_,rfl⟩
     ·rw [hρ1 k hkl,hρ1 k' hkl'] at he;exact hr.inj k k' _ _ _ _ hk0 hk0' he
     ·rw [hρ1 k hkl,hρ2] at he
      rcases hst.foot (ρ' i') ⟨i',_,_,hi',rfl⟩ with ⟨_,_,_,hf,_⟩|hf
      ·simp at hf
      ·have:=hr.lt hk0;omega
     ·rw [hρ1 k' hkl',hρ2] at he
      rcases hst.foot (ρ' i) ⟨i,_,_,hi,rfl⟩ with ⟨_,_,_,hf,_⟩|hf
      ·simp at hf
      ·have:=hr.lt hk0';omega
     ·rw [hρ2,hρ2] at he
      rw [hst.rel.inj i i' _ _ _ _ hi hi' he]
    ·rintro b ⟨k,el,ps,hk,rfl⟩
     rcases hfrom k el ps hk with ⟨hkl,hk0⟩|⟨i,ps0,hi,_,rfl⟩
     ·rw [hρ1 k hkl];exact .inl ⟨k,el,ps,hk0,rfl⟩
     ·rw [hρ2]
      rcases hst.foot (ρ' i) ⟨i,_,_,hi,rfl⟩ with ⟨_,_,_,hf,_⟩|hf
      ·simp at hf
      ·exact .inr hf
  ·have reach: ∀(fuel:Nat) (todo seen:List Nat) (K0:List Nat→Prop),zlk hp fuel todo seen K0→ ∃ι,K0 ι:=by
     intro fuel
     induction fuel with
     |zero=>intro _ _ _ h;cases h
     |succ fuel ih=>
      intro todo seen K0 h
      cases todo with
      |nil=>exact ⟨_,h⟩
      |cons k todo=>
       simp only [zlk] at h
       split at h
       ·exact ih _ _ _ h
       ·obtain ⟨b,_,h⟩:=zdo h
        split at h
        ·exact ih _ _ _ (zfl (zc7 h))
        ·exact ih _ _ _ (zc7 h)
   have hh:=reach _ _ _ _ h;clear h;obtain ⟨ι,h⟩:=hh
   split at h
   ·rename_i hn
    split at h
    ·rename_i hall
     have hh:=zim h;clear h;obtain ⟨h0,h,hl,hlt,hsub⟩:=hh
     simp only [z0l] at h
     exact zxg hr hS hn ha hall hl hlt hsub h
    ·exact h.elim
   ·exact h.elim
end
end Go.Sym

namespace Go.Sym
section
variable {P:Program} {Γ:Ctx} {ρ:Nat→Nat} {hp:List Blk} {w:World} {tm:List (Nat×SV)} {a:Act} {nb:Nat}
def x6 (P:Program) (n:Nat) (o:Oper) (a:Act) (ρ:Nat→Nat) (k:SV→Prop):Prop:=
  ∃v,k v∧v.ok (· <n)∧ ∀w,(execOp a.eval o).run P w= .ok (.value (v.den ρ)) w
def zht (P:Program) (E:World→Prop) (n:Nat) (o:Oper) (a:Act) (ρ:Nat→Nat) (w:World) (k:SV→Prop):Prop:=
  ∃v,k v∧v.ok (· <n)∧(E w→(execOp a.eval o).run P w= .ok (.value (v.den ρ)) w)
def zj1 (P:Program) (n m:Nat) (o:Oper) (a:Act) (ρ:Nat→Nat) (k:SV→Blk→Prop):Prop:=
  ∃v el ps,k v (.mk el ps)∧v.ok (· =m)∧okL (· <n) ps∧
   ∀(ρ1:Nat→Nat) w,ρ1 m=w.heap.size→(execOp a.eval o).run P w= .ok (.value (v.den ρ1)) (w.alloc (.cells (zw ρ ps).toArray el))
theorem x6.v {o:Oper} {k:SV→Prop} {v:SV} (hs: ∀w,(execOp a.eval o).run P w= .ok (.value (v.den ρ)) w) (hv:v.ok (· <nb)) (hk:k v):x6 P nb o a ρ k:=⟨v,hk,hv,hs⟩
theorem zht.v {E:World→Prop} {o:Oper} {k:SV→Prop} {v:SV} (hs:(execOp a.eval o).run P w= .ok (.value (v.den ρ)) w) (hv:v.ok (· <nb)) (hk:k v):zht P E nb o a ρ w k:=⟨v,hk,hv,fun _=>hs⟩
theorem zbq (A:Addr) (w:World):(Instr.sureAddr (.pointer (some A))).run P w= .ok A w:=rfl
theorem zs5 {xs:Array Operand} {vs:List SV} (h:xs.toList.map a.eval=xf ρ vs):xs.map a.eval=(xf ρ vs).toArray:=by
  apply Array.ext';simp [h]
theorem zpl: ∀{vs:List SV} {i:Nat} {v:SV},vs[i]?=some v→(xf ρ vs)[i]?=some (v.den ρ)
  |x ::xs,0,v,h=>by simp at h;simp [xf,h]
  |x ::xs,i+1,v,h=>by simp at h;simpa [xf] using zpl h
theorem zul {p:Nat→Prop}: ∀{vs:List SV} {i:Nat} {v:SV},okL p vs→vs[i]?=some v→v.ok p
  |x ::xs,0,v,ho,h=>by simp at h;rw [←h];exact ho.1
  |x ::xs,i+1,v,ho,h=>by simp at h;exact zul ho.2 h
theorem zv1 (x y:List SV):xf ρ (x++y)=xf ρ x++xf ρ y:=by
  induction x with
  |nil=>rfl
  |cons v vs ih=>simp [xf,ih]
variable (dst:Option Nat) (type:TypeId) (pos:String) (after:Array Edge) (guard:Option (Nat×Bool))
theorem z2f (hΓ:CtxOK P Γ) (ht:TmRel Γ.nt ρ nb tm a) (x:Operand) {K:SV→Prop} (h:x2 Γ (.move x) tm K):
    x6 P nb ⟨dst,.move x,type,pos,after,guard⟩ a ρ K:=by
  unfold x2 at h
  dsimp only at h
  have hh:=zal ht h;clear h;obtain ⟨v,h1,h2,h⟩:=hh
  exact .v (fun w=>by simp only [execOp,Sem.run_pure,h2]) h1 h
theorem zw7 (hΓ:CtxOK P Γ) (ht:TmRel Γ.nt ρ nb tm a) (x:Operand) {K:SV→Prop} (h:x2 Γ (.assign x) tm K):
    x6 P nb ⟨dst,.assign x,type,pos,after,guard⟩ a ρ K:=by
  unfold x2 at h
  dsimp only at h
  have hh:=zal ht h;clear h;obtain ⟨v,h1,h2,h⟩:=hh
  exact .v (fun w=>by simp only [execOp,Sem.run_pure,h2]) h1 h
theorem z2g (hΓ:CtxOK P Γ) (ht:TmRel Γ.nt ρ nb tm a) (c x y:Operand) {K:SV→Prop} (h:x2 Γ (.pick c x y) tm K):
    x6 P nb ⟨dst,.pick c x y,type,pos,after,guard⟩ a ρ K:=by
  unfold x2 at h
  dsimp only at h
  have hh:=zal ht h;clear h;obtain ⟨cv,cv0,c2,h⟩:=hh
  have hh:=zal ht h;clear h;obtain ⟨av,a1,a2,h⟩:=hh
  have hh:=zal ht h;clear h;obtain ⟨bv,b1,b2,h⟩:=hh
  split at h
  ·rename_i t
   have hc: ∀w,(asBool (a.eval c)).run P w= .ok t w:=fun w=>by rw [c2];rfl
   obtain ⟨h1,h2⟩:=z8 h
   cases t with
   |true=>exact .v (v:=av) (fun w=>by simp only [execOp,Sem.run_bind,hc,Result.andThen_ok,Sem.run_pure,if_true,a2]) a1 (h1 rfl)
   |false=>exact .v (v:=bv) (fun w=>by simp only [execOp,Sem.run_bind,hc,Result.andThen_ok,Sem.run_pure,Bool.false_eq_true,if_false,b2]) b1 (h2 rfl)
  ·exact h.elim
theorem zxd (hΓ:CtxOK P Γ) (ht:TmRel Γ.nt ρ nb tm a) (t:TypeId) (ps:Array (Nat×Operand)) {K:SV→Prop} (h:x2 Γ (.build t ps) tm K):
    x6 P nb ⟨dst,.build t ps,type,pos,after,guard⟩ a ρ K:=by
  unfold x2 at h
  dsimp only at h
  have hh:=zsh ht h;clear h;obtain ⟨given,g1,g2,h⟩:=hh
  have hh:=z5q (ρ:=ρ) hΓ g1 h;clear h;obtain ⟨v,h,hok,hrun⟩:=hh
  have e:(ps.map fun (i,x)=>(i,a.eval x))=(given.map fun g=>(g.1,g.2.den ρ)).toArray:=by
    apply Array.ext';simp only [Array.toList_map];exact g2
  refine .v ?_ hok h
  intro w
  simp only [execOp,Sem.run_bind]
  rw [e,hrun w];rfl
theorem zqr (hΓ:CtxOK P Γ) (ht:TmRel Γ.nt ρ nb tm a) (x:Operand) {K:SV→Prop} (h:x2 Γ (.nilCheck x) tm K):
    x6 P nb ⟨dst,.nilCheck x,type,pos,after,guard⟩ a ρ K:=by
  unfold x2 at h
  dsimp only at h
  have hh:=zal ht h;clear h;obtain ⟨v,h1,h2,h⟩:=hh
  split at h
  ·exact .v (fun w=>by simp only [execOp,h2,SV.den,Sem.run_pure]) h1 h
  ·exact .v (fun w=>by simp only [execOp,h2,SV.den,Sem.run_pure]) h1 h
  ·exact .v (fun w=>by simp only [execOp,h2,SV.den,Sem.run_pure]) h1 h
  ·exact h.elim
theorem zzt (hΓ:CtxOK P Γ) (ht:TmRel Γ.nt ρ nb tm a) (op:BinOp) (t:TypeId) (x y:Operand) (t':TypeId) {K:SV→Prop} (h:x2 Γ (.binOp op t x y t') tm K):
    x6 P nb ⟨dst,.binOp op t x y t',type,pos,after,guard⟩ a ρ K:=by
  unfold x2 at h
  dsimp only at h
  have hh:=zal ht h;clear h;obtain ⟨v,v1,v2,h⟩:=hh
  have hh:=zal ht h;clear h;obtain ⟨u,u1,u2,h⟩:=hh
  have hh:=yaz (ρ:=ρ) hΓ v1 u1 h;clear h;obtain ⟨r,h,hok,hrun⟩:=hh
  refine .v ?_ (hok _) h
  intro w
  have:=hrun x y w
  simp only [execOp,v2,u2]
  rw [Sem.run_bind,this];rfl
theorem z21 (hΓ:CtxOK P Γ) (ht:TmRel Γ.nt ρ nb tm a) (op:UnOp) (t:TypeId) (x:Operand) {K:SV→Prop} (h:x2 Γ (.unOp op t x) tm K):
    x6 P nb ⟨dst,.unOp op t x,type,pos,after,guard⟩ a ρ K:=by
  unfold x2 at h
  dsimp only at h
  have hh:=zal ht h;clear h;obtain ⟨v,v1,v2,h⟩:=hh
  have hh:=ykb (P:=P) (ρ:=ρ) h;clear h;obtain ⟨r,h,hok,hrun⟩:=hh
  refine .v ?_ (hok _) h
  intro w
  simp only [execOp,v2,Sem.run_bind,hrun,Result.andThen_ok,Sem.run_pure]
theorem zqu (ht:TmRel Γ.nt ρ nb tm a) (fn:Fn) (first caps:Array Operand) {K:SV→Prop} (h:x2 Γ (.makeFunc fn first caps) tm K):
    x6 P nb ⟨dst,.makeFunc fn first caps,type,pos,after,guard⟩ a ρ K:=by
  unfold x2 at h
  dsimp only at h
  have hh:=zx4 ht h;clear h;obtain ⟨vs,va,ve,h⟩:=hh
  have hc:=zs5 ve
  split at h
  ·rename_i f
   split at h
   ·rename_i hf
    have hf0:first= #[]:=by apply Array.ext';rw [hf]
    refine .v (v:= .func f vs) (fun w=>?_) va h
    simp only [execOp,hc,hf0,Instr.makeFunc,Sem.run_pure,Sem.run_bind,Result.andThen_ok,SV.den]
    simp
   ·exact h.elim
  ·exact h.elim
theorem zyh (hΓ:CtxOK P Γ) (ht:TmRel Γ.nt ρ nb tm a) (t:TypeId) (x:Operand) (lo hi mx:Option Operand) {K:SV→Prop} (h:x2 Γ (.slice t x lo hi mx) tm K):
    x6 P nb ⟨dst,.slice t x lo hi mx,type,pos,after,guard⟩ a ρ K:=by
  unfold x2 at h
  dsimp only at h
  have hh:=zal ht h;clear h;obtain ⟨v,v1,v2,h⟩:=hh
  have hh:=zlu ht h;clear h;obtain ⟨l,h,hl⟩:=hh
  have hh:=zlu ht h;clear h;obtain ⟨hh,h,hhh⟩:=hh
  have hh:=zlu ht h;clear h;obtain ⟨m,h,hm⟩:=hh
  have hh:=z99 (ρ:=ρ) hΓ hl hhh hm v1 h;clear h;obtain ⟨r,h,hok,hrun⟩:=hh
  refine .v ?_ hok h
  intro w
  simp only [execOp,v2,Sem.run_bind,hrun,Result.andThen_ok,Sem.run_pure]
theorem zzh (hΓ:CtxOK P Γ) (ht:TmRel Γ.nt ρ nb tm a) (s:TypeId) (x:Operand) (f:Nat) {K:SV→Prop} (h:x2 Γ (.field s x f) tm K):
    x6 P nb ⟨dst,.field s x f,type,pos,after,guard⟩ a ρ K:=by
  unfold x2 at h
  dsimp only at h
  have hh:=yd h;clear h;obtain ⟨si,hsi,h⟩:=hh
  have hS:=(hΓ.ty s si hsi).2.2.1
  split at h
  ·rename_i fs hd
   rw [hd] at hS
   obtain ⟨flds,hu,hfs,_⟩:=hS
   have hh:=zdo h;clear h;obtain ⟨ft,hft,h⟩:=hh
   have hh:=yd h;clear h;obtain ⟨fi,hfi,h⟩:=hh
   have hF:=hΓ.ty _ fi hfi
   have hfld: ∃fd,flds[f]?=some fd∧ft=(fd.offset,fd.type):=by
     rw [←hfs,List.getElem?_map] at hft
     cases hq:flds.toList[f]? with
     |none=>rw [hq] at hft;simp at hft
     |some fd=>rw [hq] at hft;exact ⟨fd,by simpa using hq,(Option.some.inj hft).symm⟩
   obtain ⟨fd,hfd,rfl⟩:=hfld
   have hh:=zal ht h;clear h;obtain ⟨v,v1,v2,h⟩:=hh
   split at h
   ·rename_i hm
    have hh:=zfs (p:=(· <nb)) ρ h;clear h;obtain ⟨ps,h,hc,_,hok⟩:=hh
    have hh:=zqp (ρ:=ρ) (hok v1) h;clear h;obtain ⟨r,h,hro,hl⟩:=hh
    refine .v ?_ hro h
    intro w
    rw [hc] at hl
    simp only [execOp,v2,zdi hm,Instr.field,Sem.run_bind,run_underlying hu,Result.andThen_ok,hfd,asAgg,Sem.run_pure,zh5 hF hl]
   ·exact h.elim
  ·exact h.elim
theorem zo9 (hΓ:CtxOK P Γ) (ht:TmRel Γ.nt ρ nb tm a) (t:TypeId) (x i:Operand) {K:SV→Prop} (h:x2 Γ (.indexAddr t x i) tm K):
    x6 P nb ⟨dst,.indexAddr t x i,type,pos,after,guard⟩ a ρ K:=by
  unfold x2 at h
  dsimp only at h
  have hh:=yd h;clear h;obtain ⟨ti,hti,h⟩:=hh
  have hT:=(hΓ.ty t ti hti).2.2.1
  have hh:=zal ht h;clear h;obtain ⟨v,v1,v2,h⟩:=hh
  have hh:=zal ht h;clear h;obtain ⟨iv,iv0,i2,h⟩:=hh
  have hh:=zp7 (ρ:=ρ) h;clear h;obtain ⟨ix,h,kd,hix⟩:=hh
  split at h
  ·rename_i n e hd
   rw [hd] at hT
   have hh:=yd h;clear h;obtain ⟨ei,hei,h⟩:=hh
   have hE:=hΓ.ty e ei hei
   split at h
   ·rename_i k j b oo
    have hh:=zq h;clear h;obtain ⟨hb,h⟩:=hh
    refine .v ?_ (v:= .ptr k j b (yb oo ix ei.sz)) v1 h
    intro w
    have hc:0≤(ix:Int)∧(ix:Int)<(n:Int):=by omega
    simp only [execOp,v2,i2,hix,SV.den,Instr.indexAt,asIntOf,Sem.run_bind,Sem.run_pure,Result.andThen_ok,run_underlying hT,zbq]
    rw [if_pos hc]
    simp only [Sem.run_bind,yp hE,Result.andThen_ok,Sem.run_pure,zdc,zy,Int.toNat_natCast,Nat.add_assoc]
   ·exact h.elim
  ·rename_i e hd
   rw [hd] at hT
   have hh:=yd h;clear h;obtain ⟨ei,hei,h⟩:=hh
   have hE:=hΓ.ty e ei hei
   split at h
   ·rename_i k j b oo n c
    have hh:=zq h;clear h;obtain ⟨hb,h⟩:=hh
    refine .v ?_ (v:= .ptr k j b (yb oo ix ei.sz)) v1 h
    intro w
    have hc:0≤(ix:Int)∧(ix:Int)<(n:Int):=by omega
    simp only [execOp,v2,i2,hix,SV.den,Instr.indexAt,asIntOf,Sem.run_bind,Sem.run_pure,Result.andThen_ok,run_underlying hT]
    rw [if_pos hc]
    simp only [Sem.run_bind,yp hE,Result.andThen_ok,Sem.run_pure,zdc,zy,Int.toNat_natCast,Nat.add_assoc]
   ·rename_i A n c
    have hh:=zq h;clear h;obtain ⟨hb,h⟩:=hh
    obtain ⟨A,rfl⟩: ∃A',A=some A':=by
      rcases v1 with v1|v1
      ·cases A with
       |none=>cases v1
       |some A=>exact ⟨A,rfl⟩
      ·omega
    refine .v ?_ (v:= .xptr (A.add (ix*ei.sz))) trivial h
    intro w
    have hc:0≤(ix:Int)∧(ix:Int)<(n:Int):=by omega
    simp only [execOp,v2,i2,hix,SV.den,Instr.indexAt,asIntOf,Sem.run_bind,Sem.run_pure,Result.andThen_ok,run_underlying hT]
    rw [if_pos hc]
    simp only [Sem.run_bind,yp hE,Result.andThen_ok,Sem.run_pure,Int.toNat_natCast]
   ·exact h.elim
  ·exact h.elim
theorem zyg (hΓ:CtxOK P Γ) (ht:TmRel Γ.nt ρ nb tm a) (t:TypeId) (x i:Operand) {K:SV→Prop} (h:x2 Γ (.index t x i) tm K):
    x6 P nb ⟨dst,.index t x i,type,pos,after,guard⟩ a ρ K:=by
  unfold x2 at h
  dsimp only at h
  have hh:=yd h;clear h;obtain ⟨ti,hti,h⟩:=hh
  have hT:=(hΓ.ty t ti hti).2.2.1
  have hh:=zal ht h;clear h;obtain ⟨v,v1,v2,h⟩:=hh
  have hh:=zal ht h;clear h;obtain ⟨iv,iv0,i2,h⟩:=hh
  have hh:=zp7 (ρ:=ρ) h;clear h;obtain ⟨ix,h,kd,hix⟩:=hh
  split at h
  ·rename_i l
   split at h
   ·rename_i hd
    rw [hd] at hT
    obtain ⟨hb,h⟩:=zq h
    refine .v ?_ (v:= .u8 (l.getD ix 0)) trivial h
    intro w
    have hs:ix<(⟨l.toArray⟩:ByteArray).size:=by simpa [ByteArray.size] using hb
    have hget:(⟨l.toArray⟩:ByteArray)[ix]?=some (l.getD ix 0):=by
      rw [getElem?_pos (⟨l.toArray⟩:ByteArray) ix hs]
      simp only [ByteArray.getElem_eq_getElem_data,List.getElem_toArray,List.getD_eq_getElem?_getD,List.getElem?_eq_getElem hb,Option.getD_some]
    have h0:0≤(ix:Int):=by omega
    simp only [execOp,v2,i2,hix,SV.den,Instr.index,asIntOf,Sem.run_bind,Sem.run_pure,Result.andThen_ok,run_underlying hT,if_pos h0,Int.toNat_natCast,hget]
   ·exact h.elim
  ·split at h
   ·rename_i n e hd
    rw [hd] at hT
    have hh:=yd h;clear h;obtain ⟨ei,hei,h⟩:=hh
    have hE:=hΓ.ty e ei hei
    split at h
    ·rename_i hm
     obtain ⟨hb,h⟩:=zq h
     have hh:=zkn (ρ:=ρ) (p:=(· <nb)) (ps:= [v]) ⟨v1,trivial⟩ h;clear h;obtain ⟨r,h,hro,hl⟩:=hh
     refine .v ?_ hro h
     intro w
     have hc:0≤(ix:Int)∧(ix:Int)<(n:Int):=by omega
     have hcl:zw ρ [v]=v.cells ρ:=by simp [zw]
     rw [hcl] at hl
     have hoff:0+off [(ix,ei.sz)]=ix*ei.sz:=by simp [off,zc3]
     rw [hoff] at hl
     simp only [execOp,v2,i2,hix,zdi hm,Instr.index,asIntOf,Sem.run_bind,Sem.run_pure,Result.andThen_ok,run_underlying hT]
     rw [if_pos hc]
     simp only [Sem.run_bind,yp hE,Result.andThen_ok,Int.toNat_natCast,zh5 hE hl,Sem.run_pure]
    ·exact h.elim
   ·exact h.elim
theorem zsq (ht:TmRel Γ.nt ρ nb tm a) (x:Operand) (i:Nat) {K:SV→Prop} (h:x2 Γ (.extract x i) tm K):
    x6 P nb ⟨dst,.extract x i,type,pos,after,guard⟩ a ρ K:=by
  unfold x2 at h
  dsimp only at h
  have hh:=zal ht h;clear h;obtain ⟨v,v1,v2,h⟩:=hh
  split at h
  ·rename_i vs
   have hh:=zdo h;clear h;obtain ⟨u,hu,h⟩:=hh
   refine .v ?_ (zul v1 hu) h
   intro w
   have:=zpl (ρ:=ρ) hu
   simp only [execOp,v2,SV.den,Instr.extract,List.getElem?_toArray,this,Sem.run_bind,Sem.run_pure,Result.andThen_ok]
  ·exact h.elim
theorem z3y (hΓ:CtxOK P Γ) (hr:HpRel ρ hp w) (ht:TmRel Γ.nt ρ hp.length tm a) (t:TypeId) (x:Operand) {K:SV→Prop} (h:ze6 Γ (.load t x) tm hp K):
    zht P Γ.E hp.length ⟨dst,.load t x,type,pos,after,guard⟩ a ρ w K:=by
  unfold ze6 at h
  dsimp only at h
  have hh:=yd h;clear h;obtain ⟨ti,hti,h⟩:=hh
  have hT:=hΓ.ty t ti hti
  have hh:=zal ht h;clear h;obtain ⟨v,v0,h2,h⟩:=hh
  split at h
  ·rename_i k j b oo
   have hh:=zch h;clear h;obtain ⟨el,ps,hk,h⟩:=hh
   obtain ⟨hok,_⟩:=hr.mem k el ps hk
   have hh:=zkn (ρ:=ρ) hok h;clear h;obtain ⟨u,h,hu,hl⟩:=hh
   refine .v ?_ hu h
   simp only [execOp,Instr.loadAt,h2,SV.den,Sem.run_bind,zbq,Result.andThen_ok,zfz hT (fun i=>hr.cell hk i) hl,Sem.run_pure]
  ·rename_i A
   obtain ⟨u,hu,hk⟩:=ydf h
   obtain ⟨h5,h6⟩:=hΓ.ext A t u hu
   refine ⟨u,hk,SV.ok_mono (fun _ hf=>hf.elim) u h5,fun hE=>?_⟩
   simp only [execOp,Instr.loadAt,h2,SV.den,Sem.run_bind,zbq,Result.andThen_ok,h6 ρ w hE,Sem.run_pure]
  ·exact h.elim
theorem zps (hΓ:CtxOK P Γ) (hr:HpRel ρ hp w) (ht:TmRel Γ.nt ρ hp.length tm a) (s:TypeId) (x:Operand) (f:Nat) {K:SV→Prop} (h:ze6 Γ (.fieldAddr s x f) tm hp K):
    zht P Γ.E hp.length ⟨dst,.fieldAddr s x f,type,pos,after,guard⟩ a ρ w K:=by
  unfold ze6 at h
  dsimp only at h
  have hh:=yd h;clear h;obtain ⟨si,hsi,h⟩:=hh
  have hS:=(hΓ.ty s si hsi).2.2.1
  split at h
  ·rename_i fs hd
   rw [hd] at hS
   obtain ⟨flds,hu,hfs,_⟩:=hS
   have hh:=zdo h;clear h;obtain ⟨ft,hft,h⟩:=hh
   have hh:=yd h;clear h;obtain ⟨fi,hfi,h⟩:=hh
   have hF:=hΓ.ty _ fi hfi
   have hfld: ∃fd,flds[f]?=some fd∧ft=(fd.offset,fd.type):=by
     rw [←hfs,List.getElem?_map] at hft
     cases hq:flds.toList[f]? with
     |none=>rw [hq] at hft;simp at hft
     |some fd=>rw [hq] at hft;exact ⟨fd,by simpa using hq,(Option.some.inj hft).symm⟩
   obtain ⟨fd,hfd,rfl⟩:=hfld
   split at h
   ·exact h.elim
   ·rename_i m hm
    have hh:=zal ht h;clear h;obtain ⟨v,v1,v2,h⟩:=hh
    split at h
    ·rename_i k j b oo
     have key: ∀u:SV,u.den ρ= .pointer (some ⟨ρ k,b+off oo+fd.offset,none⟩)→(execOp a.eval ⟨dst,.fieldAddr s x f,type,pos,after,guard⟩).run P w= .ok (.value (u.den ρ)) w:=by
       intro u hu'
       have hne: ¬(fi.sz=0):=by rw [hm];omega
       simp only [execOp,v2,SV.den,Instr.fieldAt,Sem.run_bind,run_underlying hu,Result.andThen_ok,hfd,zbq,fieldPlace,yp hF,if_neg hne,Sem.run_pure,zdc,hu']
     split at h
     ·rename_i h0
      refine .v (key (.ptr k j b oo) ?_) v1 h
      simp only at h0
      simp [SV.den,h0]
     ·rename_i c hc
      simp only at hc
      split at h
      ·have hh:=zch h;clear h;obtain ⟨el,ps,hk,h⟩:=hh
       have hh:=ze9 h;clear h;obtain ⟨_,r,_,_,h⟩:=hh
       have hh:=zm5 h;clear h;obtain ⟨j',b',o',he,h⟩:=hh
       refine .v (key (.ptr k j' b' o') ?_) v1 h
       simp only [SV.den,he,hc,off]
       congr 3
      ·refine .v (key (.ptr k j b (yb oo (c+1) 1)) ?_) v1 h
       simp only [SV.den,zy,hc]
       congr 3;omega
    ·rename_i A
     have hne: ¬(fi.sz=0):=by rw [hm];omega
     refine .v (v:= .xptr (A.add fd.offset)) ?_ trivial h
     simp only [execOp,v2,SV.den,Instr.fieldAt,Sem.run_bind,run_underlying hu,Result.andThen_ok,hfd,zbq,fieldPlace,yp hF,if_neg hne,Sem.run_pure]
    ·exact h.elim
  ·exact h.elim
theorem zuh (hΓ:CtxOK P Γ) (ht:TmRel Γ.nt ρ nb tm a) (s d:TypeId) (x:Operand) {K:SV→Prop} (h:x2 Γ (.convert s d x) tm K):
    x6 P nb ⟨dst,.convert s d x,type,pos,after,guard⟩ a ρ K:=by
  unfold x2 at h
  dsimp only at h
  have hh:=yd h;clear h;obtain ⟨si,hs,h⟩:=hh
  obtain ⟨ds,hds⟩:=(hΓ.ty s si hs).under
  have hh:=yd h;clear h;obtain ⟨di,hd,h⟩:=hh
  have hu:=(hΓ.ty d di hd).2.2.1
  split at h
  ·rename_i kd hdd
   rw [hdd] at hu
   have hh:=zal ht h;clear h;obtain ⟨u,u1,u2,h⟩:=hh
   obtain ⟨sk,m,hn,v,hk,hok,hrun⟩:=zp8 (P:=P) (ρ:=ρ) h
   refine .v (v:=v) (fun w=>?_) (hok _) hk
   simp only [execOp,Sem.run_bind,u2,hn]
   unfold convert
   simp only [Sem.run_bind,run_underlying hds,run_underlying hu,Result.andThen_ok,hrun,Sem.run_pure]
  ·exact h.elim
theorem ztj (hΓ:CtxOK P Γ) (hr:HpRel ρ hp w) (ht:TmRel Γ.nt ρ hp.length tm a) (s d:TypeId) (x:Operand) {K:SV→Prop} (h:ze6 Γ (.convert s d x) tm hp K):
    zht P Γ.E hp.length ⟨dst,.convert s d x,type,pos,after,guard⟩ a ρ w K:=by
  unfold ze6 at h
  dsimp only at h
  have hh:=yd h;clear h;obtain ⟨si,hs,h⟩:=hh
  have hS:=hΓ.ty s si hs
  obtain ⟨ds,hds⟩:=hS.under
  have hh:=yd h;clear h;obtain ⟨di,hd,h⟩:=hh
  have hu:=(hΓ.ty d di hd).2.2.1
  split at h
  ·rename_i hdd
   rw [hdd] at hu
   have hh:=zal ht h;clear h;obtain ⟨u,u1,u2,h⟩:=hh
   split at h
   ·rename_i l
    refine .v (v:= .str l) ?_ trivial h
    simp only [execOp,Sem.run_bind,u2]
    unfold convert
    simp only [Sem.run_bind,run_underlying hds,run_underlying hu,Result.andThen_ok,SV.den]
    cases ds<;>rfl
   ·split at h
    ·rename_i e he
     have hsu:=hS.2.2.1
     rw [he] at hsu
     have hh:=yd h;clear h;obtain ⟨ei,hei,h⟩:=hh
     have hE:=(hΓ.ty e ei hei).2.2.1
     split at h
     ·rename_i h8
      rw [h8] at hE
      refine .v (v:= .str []) ?_ trivial h
      simp only [execOp,Sem.run_bind,u2]
      unfold convert
      simp only [SV.den]
      simp only [Sem.run_bind,run_underlying hsu,run_underlying hu,Result.andThen_ok,run_underlying hE]
      rfl
     ·exact h.elim
    ·exact h.elim
   ·split at h
    ·rename_i e he
     have hsu:=hS.2.2.1
     rw [he] at hsu
     have hh:=yd h;clear h;obtain ⟨ei,hei,h⟩:=hh
     have hE:=(hΓ.ty e ei hei).2.2.1
     split at h
     ·rename_i h8
      rw [h8] at hE
      have hh:=zkw (P:=P) hr h;clear h;obtain ⟨l,h,_,hl⟩:=hh
      obtain ⟨_,_,h3⟩:=hl w (fun _=>rfl)
      refine .v (v:= .str l) ?_ trivial h
      have h3':=h3 (fun s hs=>by cases hs)
      simp only [execOp,Sem.run_bind,u2]
      unfold convert
      simp only [SV.den] at h3' ⊢
      simp only [Sem.run_bind,run_underlying hsu,run_underlying hu,Result.andThen_ok,run_underlying hE,h3',Sem.run_pure]
     ·exact h.elim
    ·exact h.elim
   ·exact h.elim
  ·exact h.elim
theorem z2x (hΓ:CtxOK P Γ) (ht:TmRel Γ.nt ρ nb tm a) (c:Call) {K:SV→Prop} (h:x2 Γ (.call c) tm K):
    x6 P nb ⟨dst,.call c,type,pos,after,guard⟩ a ρ K:=by
  obtain ⟨callee,args,argTypes⟩:=c
  unfold x2 at h
  dsimp only at h
  have hh:=zx4 ht h;clear h;obtain ⟨vs,va,ve,h⟩:=hh
  have hargs:=zs5 ve
  have blt: ∀(b:Builtin) (s:Sem Value) (v:SV),callee= .builtin b→(∀cs,builtin b argTypes type cs (xf ρ vs).toArray=(do pure (.value (←s)):Sem Next))→
   (∀w,s.run P w= .ok (v.den ρ) w)→v.ok (· <nb)→K v→x6 P nb ⟨dst,.call ⟨callee,args,argTypes⟩,type,pos,after,guard⟩ a ρ K:=by
    intro b s v hb hs hv hok hk
    subst hb
    refine .v (fun w=>?_) hok hk
    have he:execOp a.eval ⟨dst,.call ⟨.builtin b,args,argTypes⟩,type,pos,after,guard⟩=(do pure (.value (←s)):Sem Next):=by
      simp only [execOp,resolve,hargs]
      exact hs _
    rw [he]
    simp only [Sem.run_bind,hv,Result.andThen_ok,Sem.run_pure]
  split at h
  ·split at h
   ·rename_i t hat
    have hat0:argTypes[0]?=some t:=by rw [←Array.getElem?_toList,hat];rfl
    have hh:=yd h;clear h;obtain ⟨ti,hti,h⟩:=hh
    have hT:=(hΓ.ty t ti hti).2.2.1
    have fin: ∀(n:Int),K (.int n)→(∀w,(Builtin.len_ argTypes type (xf ρ vs).toArray).run P w= .ok (.int .i64 n) w)→
     x6 P nb ⟨dst,.call ⟨.builtin .len,args,argTypes⟩,type,pos,after,guard⟩ a ρ K:=by
      intro n hk hrun
      exact blt .len (Builtin.len_ argTypes type (xf ρ vs).toArray) (.int n) rfl (fun _=>rfl) hrun trivial hk
    split at h
    ·rename_i hd
     rw [hd] at hT
     split at h
     ·rename_i l
      refine fin _ h (fun w=>?_)
      simp only [Builtin.len_,hat0,xf,SV.den,List.getElem?_toArray,List.getElem?_cons_zero,Sem.run_bind,run_underlying hT,Result.andThen_ok,Sem.run_pure,goInt]
      simp [ByteArray.size]
     ·exact h.elim
    ·rename_i e hd
     rw [hd] at hT
     split at h
     ·refine fin _ h (fun w=>?_)
      simp only [Builtin.len_,hat0,xf,SV.den,List.getElem?_toArray,List.getElem?_cons_zero,Sem.run_bind,run_underlying hT,Result.andThen_ok,Sem.run_pure,goInt]
     ·refine fin _ h (fun w=>?_)
      simp only [Builtin.len_,hat0,xf,SV.den,List.getElem?_toArray,List.getElem?_cons_zero,Sem.run_bind,run_underlying hT,Result.andThen_ok,Sem.run_pure,goInt]
      rfl
     ·refine fin _ h (fun w=>?_)
      simp only [Builtin.len_,hat0,xf,SV.den,List.getElem?_toArray,List.getElem?_cons_zero,Sem.run_bind,run_underlying hT,Result.andThen_ok,Sem.run_pure,goInt]
     ·exact h.elim
    ·rename_i n e hd
     rw [hd] at hT
     split at h
     ·refine fin _ h (fun w=>?_)
      simp only [Builtin.len_,hat0,xf,List.getElem?_toArray,List.getElem?_cons_zero,Sem.run_bind,run_underlying hT,Result.andThen_ok,Sem.run_pure,goInt]
     ·exact h.elim
    ·exact h.elim
   ·exact h.elim
  ·have m2: ∀(x y:Int) w,(Builtin.min2 (.int .i64 x) (.int .i64 y)).run P w= .ok (.int .i64 (min x y)) w:=fun x y w=>by
     simp only [Builtin.min2,Sem.run_pure]
     congr 2
     split<;>omega
   split at h
   ·rename_i x y
    refine blt .min (Builtin.min_ argTypes type _) (.int (min x y)) rfl (fun _=>rfl) (fun w=>?_) trivial h
    simp only [Builtin.min_,xf,SV.den,List.foldlM_cons,List.foldlM_nil,Sem.run_bind,m2,Result.andThen_ok,Sem.run_pure]
   ·rename_i x y z
    refine blt .min (Builtin.min_ argTypes type _) (.int (min (min x y) z)) rfl (fun _=>rfl) (fun w=>?_) trivial h
    simp only [Builtin.min_,xf,SV.den,List.foldlM_cons,List.foldlM_nil,Sem.run_bind,m2,Result.andThen_ok,Sem.run_pure]
   ·exact h.elim
  ·have m2: ∀(x y:Int) w,(Builtin.max2 (.int .i64 x) (.int .i64 y)).run P w= .ok (.int .i64 (max x y)) w:=fun x y w=>by
     simp only [Builtin.max2,Sem.run_pure]
     congr 2
     split<;>omega
   split at h
   ·rename_i x y
    refine blt .max (Builtin.max_ argTypes type _) (.int (max x y)) rfl (fun _=>rfl) (fun w=>?_) trivial h
    simp only [Builtin.max_,xf,SV.den,List.foldlM_cons,List.foldlM_nil,Sem.run_bind,m2,Result.andThen_ok,Sem.run_pure]
   ·rename_i x y z
    refine blt .max (Builtin.max_ argTypes type _) (.int (max (max x y) z)) rfl (fun _=>rfl) (fun w=>?_) trivial h
    simp only [Builtin.max_,xf,SV.den,List.foldlM_cons,List.foldlM_nil,Sem.run_bind,m2,Result.andThen_ok,Sem.run_pure]
   ·exact h.elim
  ·exact h.elim
variable {m:Nat}
theorem zxn (hΓ:CtxOK P Γ) (t:TypeId) {K:SV→Blk→Prop} (h:zcx Γ (.alloc t) tm m K):
    zj1 P nb m ⟨dst,.alloc t,type,pos,after,guard⟩ a ρ K:=by
  unfold zcx at h
  dsimp only at h
  have hh:=yd h;clear h;obtain ⟨ti,hti,h⟩:=hh
  have hT:=hΓ.ty t ti hti
  have hh:=zfs (p:=fun _=>False) ρ h;clear h;obtain ⟨ps,h,hc,_,hok⟩:=hh
  refine ⟨_,_,_,h,rfl,yz (fun _ hf=>hf.elim) _ (hok hT.2.1.1),fun ρ1 w hm=>?_⟩
  simp only [execOp,Instr.alloc,Sem.run_bind,zbh (ρ:=ρ) hT,Result.andThen_ok,newVar,newRow,run_newObj,Sem.run_pure,zdy,hc,SV.den,hm,off]
  rfl
theorem z4i (ht:TmRel Γ.nt ρ nb tm a) (t:TypeId) (x:Operand) {K:SV→Blk→Prop} (h:zcx Γ (.box t x) tm m K):
    zj1 P nb m ⟨dst,.box t x,type,pos,after,guard⟩ a ρ K:=by
  unfold zcx at h
  dsimp only at h
  have hh:=zal ht h;clear h;obtain ⟨v,h1,h2,h⟩:=hh
  have hh:=zfs (p:=(· <nb)) ρ h;clear h;obtain ⟨ps,h,hc,_,hok⟩:=hh
  refine ⟨_,_,_,h,rfl,hok h1,fun ρ1 w hm=>?_⟩
  simp only [execOp,Instr.box,Sem.run_bind,Result.andThen_ok,newVar,newRow,run_newObj,Sem.run_pure,h2,zdy,hc,SV.den,hm,off]
  rfl
theorem zpk (hΓ:CtxOK P Γ) (ht:TmRel Γ.nt ρ nb tm a) (t:TypeId) (x y:Operand) {K:SV→Blk→Prop} (h:zcx Γ (.makeSlice t x y) tm m K):
    zj1 P nb m ⟨dst,.makeSlice t x y,type,pos,after,guard⟩ a ρ K:=by
  unfold zcx at h
  dsimp only at h
  have hh:=zal ht h;clear h;obtain ⟨nv,nv0,n2,h⟩:=hh
  have hh:=zal ht h;clear h;obtain ⟨cv,cv0,c2,h⟩:=hh
  have hh:=zp7 (ρ:=ρ) h;clear h;obtain ⟨n,h,hn⟩:=hh
  have hh:=zp7 (ρ:=ρ) h;clear h;obtain ⟨c,h,hc⟩:=hh
  have hh:=yd h;clear h;obtain ⟨ti,hti,h⟩:=hh
  have hu:=(hΓ.ty t ti hti).2.2.1
  split at h
  ·rename_i e hd
   rw [hd] at hu
   have hh:=yd h;clear h;obtain ⟨ei,he,h⟩:=hh
   have hE:=hΓ.ty e ei he
   have hh:=zq h;clear h;obtain ⟨⟨h1,h2,h3⟩,h⟩:=hh
   obtain ⟨ps,h,hok,hcells⟩:=z0e (p:=(· <nb)) (ρ:=ρ) h
   obtain ⟨⟨info,i1,i2,i3,i4⟩,⟨_,_,hsz⟩,_⟩:=hE
   obtain ⟨kn,hn⟩:=hn
   obtain ⟨kc,hc⟩:=hc
   have hcc:madeCells (ei.zero.den ρ).cells ((c:Int).toNat*info.size)=(zw ρ ps).toArray:=by
     apply Array.ext'
     rw [←hcells,i2,←hsz];simp
   refine ⟨_,_,_,h,by simp [SV.ok],hok,fun ρ1 w hm=>?_⟩
   have hrun:=run_make (P:=P) w t e info (ei.zero.den ρ) hu i1 (i4 ρ) kn kc n c (by omega) (by omega) (by
     have:(info.bytes:Int)*(c:Int)=((ei.bytes*c:Nat):Int):=by rw [i3];simp
     rw [this];omega) (by omega)
   rw [hcc] at hrun
   simp only [execOp,Sem.run_bind,n2,c2,hn,hc,hrun,Result.andThen_ok,Sem.run_pure,SV.den,hm,off]
   simp
  ·exact h.elim
theorem zmp (hΓ:CtxOK P Γ) (ht:TmRel Γ.nt ρ nb tm a) (t:TypeId) (n:Nat) (qs:Array (Nat×Operand)) {K:SV→Blk→Prop} (h:zcx Γ (.buildSlice t n qs) tm m K):
    zj1 P nb m ⟨dst,.buildSlice t n qs,type,pos,after,guard⟩ a ρ K:=by
  unfold zcx at h
  dsimp only at h
  have hh:=zsh ht h;clear h;obtain ⟨given,g1,g2,h⟩:=hh
  have e:(qs.map fun (i,x)=>(i,a.eval x))=(given.map fun g=>(g.1,g.2.den ρ)).toArray:=by
    apply Array.ext';simp only [Array.toList_map];exact g2
  have hh:=yd h;clear h;obtain ⟨ti,hti,h⟩:=hh
  have hu:=(hΓ.ty t ti hti).2.2.1
  split at h
  ·rename_i el hd
   rw [hd] at hu
   have hh:=yd h;clear h;obtain ⟨ei,he,h⟩:=hh
   have hE:=hΓ.ty el ei he
   have hh:=zq h;clear h;obtain ⟨h1,h⟩:=hh
   have hh:=z0e (p:=(· <nb)) (ρ:=ρ) h;clear h;obtain ⟨zs,h,hok,hcells⟩:=hh
   have hh:=zhb (ρ:=ρ) hok g1 h;clear h;obtain ⟨ps,h,hok',hfill⟩:=hh
   have hsz:=hE.2.1.2.2
   refine ⟨_,_,_,h,by simp [SV.ok],hok',fun ρ1 w hm=>?_⟩
   have hb:(Instr.buildSlice t n (given.map fun g=>(g.1,g.2.den ρ)).toArray).run P w= .ok (.slice (some ⟨w.heap.size,0,none⟩) n n) (w.alloc (.cells (zw ρ ps).toArray el)):=by
     unfold Instr.buildSlice
     have hgt: ¬(n*ei.sz>2^24):=by omega
     have hmade:(madeCells (ei.zero.den ρ).cells (n*ei.sz))=(zw ρ zs).toArray:=by
       rw [←hsz];apply Array.ext';rw [hcells]
     simp only [Sem.run_bind,run_underlying hu,Result.andThen_ok,yp hE,hgt,if_false]
     by_cases h0:n*ei.sz=0
     ·have hz0:(zw ρ zs).toArray= #[]:=by rw [←hmade,h0];simp [madeCells,Array.range_zero']
      simp only [h0,if_true,Sem.run_bind,Sem.run_pure,Result.andThen_ok]
      have e0:(Array.map (fun x=>(#[]:Array Value)[x%(#[]:Array Value).size]!) (Array.range 0))=(zw ρ zs).toArray:=by rw [hz0];simp
      rw [e0,hfill]
      rfl
     ·simp only [if_neg h0,Sem.run_bind,zbh (ρ:=ρ) hE,Result.andThen_ok,Sem.run_pure]
      have e0:(Array.map (fun x=>(ei.zero.den ρ).cells[x%(ei.zero.den ρ).cells.size]!) (Array.range (n*ei.sz)))=(zw ρ zs).toArray:=hmade
      rw [e0,hfill]
      rfl
   simp only [execOp,Sem.run_bind]
   rw [e,hb]
   simp only [Result.andThen_ok,Sem.run_pure,SV.den,hm,off]
  ·exact h.elim
end
end Go.Sym

namespace Go.Sym
section
variable {P:Program} {Γ:Ctx} {ρ:Nat→Nat} {hp:List Blk} {w:World} {tm:List (Nat×SV)} {a:Act} {nb:Nat}
def zdz (P:Program) (o:Oper) (a:Act) (ρ:Nat→Nat) (hp:List Blk) (w:World) (put:SV→List Blk→Prop) (skip:List Blk→Prop):Prop:=
  (∃v ρ' hp' w',(execOp a.eval o).run P w= .ok (.value (v.den ρ')) w'∧v.ok (· <hp'.length)∧Step ρ hp w ρ' hp' w'∧put v hp')∨
  (∃hp' w',(execOp a.eval o).run P w= .ok .skip w'∧Step ρ hp w ρ hp' w'∧skip hp')∨
  (∃f args,(execOp a.eval o).run P w= .ok (.enter f args) w∧Calls P f args w fun e w'=> ∃v ρ' hp',e= .returned (v.den ρ')∧v.ok (· <hp'.length)∧Step ρ hp w ρ' hp' w'∧put v hp')
theorem zdz.mem {o:Oper} {put:SV→List Blk→Prop} {skip:List Blk→Prop} {s:Sem Value} (he:execOp a.eval o=(do pure (.value (←s)):Sem Next)) (h:Mem P ρ hp w put s):zdz P o a ρ hp w put skip:=by
  obtain ⟨v,ρ',hp',w',h1,h2,h3,h4⟩:=h
  refine .inl ⟨v,ρ',hp',w',?_,h2,h3,h4⟩
  rw [he];simp only [Sem.run_bind,h1,Result.andThen_ok,Sem.run_pure]
variable (dst:Option Nat) (type:TypeId) (pos:String) (after:Array Edge) (guard:Option (Nat×Bool))
theorem zss (hΓ:CtxOK P Γ) (hr:HpRel ρ hp w) (ht:TmRel Γ.nt ρ hp.length tm a) (t:TypeId) (x y:Operand) {put:SV→List Blk→Prop} {skip:List Blk→Prop}
    (h:zcm Γ (.store t x y) tm hp put skip):zdz P ⟨dst,.store t x y,type,pos,after,guard⟩ a ρ hp w put skip:=by
  unfold zcm at h
  dsimp only at h
  have hh:=yd h;clear h;obtain ⟨ti,hti,h⟩:=hh
  have hT:=hΓ.ty t ti hti
  have hh:=zal ht h;clear h;obtain ⟨v,v0,h2,h⟩:=hh
  have hh:=zal ht h;clear h;obtain ⟨u,hu,h3,h⟩:=hh
  split at h
  ·rename_i k j b oo
   have hh:=zch h;clear h;obtain ⟨el,ps,hk,h⟩:=hh
   obtain ⟨hok,el0,fz,hblk,hfz⟩:=hr.mem k el ps hk
   have hh:=zkh (ρ:=ρ) hok hu h;clear h;obtain ⟨ps',h,hok',hlen,hw1,hw2,hw3⟩:=hh
   have hh:=zes h;clear h;obtain ⟨_,h⟩:=hh
   have hst:=zaa (P:=P) (b:=ρ k) (s:=b+off oo) (el:=el0) (fz:=fz) (u.cells ρ) 0 (zw ρ ps) w hblk hfz (by simpa using hw2) hw3
   rw [Nat.add_zero,←hw1] at hst
   refine .inr (.inl ⟨_,_,?_,Step.write (el0:=el0) (fz:=fz) hr hk hok' (by rw [hw1,xd _ _ _ hw2];exact hfz),h⟩)
   have hsz: ¬((u.cells ρ).toArray.size≠ti.sz):=by simp [hlen]
   simp only [execOp,Instr.storeAt,h2,h3,SV.den,Sem.run_bind,zbq,Result.andThen_ok,storeVar,yp hT,zdy]
   rw [if_neg hsz]
   rw [hst];rfl
  ·exact h.elim
theorem zpj (hΓ:CtxOK P Γ) (hr:HpRel ρ hp w) (ht:TmRel Γ.nt ρ hp.length tm a) (s d:TypeId) (x:Operand) {put:SV→List Blk→Prop} {skip:List Blk→Prop}
    (h:zcm Γ (.convert s d x) tm hp put skip):zdz P ⟨dst,.convert s d x,type,pos,after,guard⟩ a ρ hp w put skip:=by
  unfold zcm at h
  dsimp only at h
  have hh:=zal ht h;clear h;obtain ⟨v,v1,v2,h⟩:=hh
  refine .mem (s:=convert s d (a.eval x)) rfl ?_
  rw [v2]
  exact yc2 hΓ hr h
theorem zvv (hΓ:CtxOK P Γ) (hr:HpRel ρ hp w) (ht:TmRel Γ.nt ρ hp.length tm a) (c:Call) {put:SV→List Blk→Prop} {skip:List Blk→Prop}
    (h:zcm Γ (.call c) tm hp put skip):zdz P ⟨dst,.call c,type,pos,after,guard⟩ a ρ hp w put skip:=by
  obtain ⟨callee,args,argTypes⟩:=c
  unfold zcm at h
  dsimp only at h
  have hh:=zx4 ht h;clear h;obtain ⟨vs,va,ve,h⟩:=hh
  have hargs:=zs5 ve
  have blt: ∀(b:Builtin) (s:Sem Value),callee= .builtin b→(∀cs,builtin b argTypes type cs (xf ρ vs).toArray=(do pure (.value (←s)):Sem Next))→
   execOp a.eval ⟨dst,.call ⟨callee,args,argTypes⟩,type,pos,after,guard⟩=(do pure (.value (←s)):Sem Next):=by
    intro b s hb hs
    subst hb
    simp only [execOp,resolve,hargs]
    exact hs _
  split at h
  ·rename_i f
   have hh:=zal ht h;clear h;obtain ⟨fv,f1,f2,h⟩:=hh
   split at h
   ·rename_i fi caps
    have hh:=yd h;clear h;obtain ⟨S,hS,h⟩:=hh
    have hh:=zfl h;clear h;have h:=hh;clear hh
    have hout:=yc8 hr (hΓ.fn fi S hS) (xi.2 ⟨va,f1⟩) h
    have hexec:execOp a.eval ⟨dst,.call ⟨.value f,args,argTypes⟩,type,pos,after,guard⟩=callFunc fi (xf ρ (vs++caps)).toArray:=by
      simp only [execOp,resolve,f2,SV.den,Deferred.ofValue,hargs,zv1]
      show invoke (.fn (.func fi) (xf ρ caps).toArray) _=_
      simp [invoke]
    rcases hout with ⟨r,ρ',hp',w',h1,h2,h3,h4⟩|⟨h1,h2⟩
    ·exact .inl ⟨r,ρ',hp',w',by rw [hexec,h1],h3,h4,h2⟩
    ·refine .inr (.inr ⟨fi,_,by rw [hexec,h1],h2.mono fun e w' ⟨r,ρ',hp',he,g1,g2,g3⟩=>⟨r,ρ',hp',he,g2,g3,g1⟩⟩)
   ·exact h.elim
  ·split at h
   ·rename_i d s
    split at h
    ·rename_i t ats hat
     have hat0:argTypes=(t ::ats).toArray:=by apply Array.ext';rw [hat]
     refine .mem (blt .copy (Builtin.copy_ argTypes type _) rfl (fun _=>rfl)) ?_
     rw [hat0]
     exact ybg hΓ hr va.1 h
    ·exact h.elim
   ·exact h.elim
  ·split at h
   ·rename_i s x
    split at h
    ·rename_i t u hat
     have hat0:argTypes= #[t,u]:=by apply Array.ext';rw [hat]
     refine .mem (blt .append (Builtin.append_ argTypes type _) rfl (fun _=>rfl)) ?_
     rw [hat0]
     exact z3a hΓ hr h
    ·exact h.elim
   ·exact h.elim
  ·exact h.elim
theorem zuf (hΓ:CtxOK P Γ) (ht:TmRel Γ.nt ρ nb tm a) (o:Oper) {K:SV→Prop} (h:x2 Γ o.op tm K):x6 P nb o a ρ K:=by
  obtain ⟨dst,op,type,pos,after,guard⟩:=o
  cases op
  case move x=>exact z2f dst type pos after guard hΓ ht x h
  case assign x=>exact zw7 dst type pos after guard hΓ ht x h
  case pick c x y=>exact z2g dst type pos after guard hΓ ht c x y h
  case build t ps=>exact zxd dst type pos after guard hΓ ht t ps h
  case nilCheck x=>exact zqr dst type pos after guard hΓ ht x h
  case binOp op t x y t'=>exact zzt dst type pos after guard hΓ ht op t x y t' h
  case unOp op t x=>exact z21 dst type pos after guard hΓ ht op t x h
  case slice t x lo hi mx=>exact zyh dst type pos after guard hΓ ht t x lo hi mx h
  case field s x f=>exact zzh dst type pos after guard hΓ ht s x f h
  case indexAddr t x i=>exact zo9 dst type pos after guard hΓ ht t x i h
  case index t x i=>exact zyg dst type pos after guard hΓ ht t x i h
  case makeFunc fn first caps=>exact zqu dst type pos after guard ht fn first caps h
  case extract x i=>exact zsq dst type pos after guard ht x i h
  case convert s d x=>exact zuh dst type pos after guard hΓ ht s d x h
  case call c=>exact z2x dst type pos after guard hΓ ht c h
  all_goals exact h.elim
theorem zmt (hΓ:CtxOK P Γ) (hr:HpRel ρ hp w) (ht:TmRel Γ.nt ρ hp.length tm a) (o:Oper) {K:SV→Prop} (h:ze6 Γ o.op tm hp K):zht P Γ.E hp.length o a ρ w K:=by
  obtain ⟨dst,op,type,pos,after,guard⟩:=o
  cases op
  case load t x=>exact z3y dst type pos after guard hΓ hr ht t x h
  case fieldAddr s x f=>exact zps dst type pos after guard hΓ hr ht s x f h
  case convert s d x=>exact ztj dst type pos after guard hΓ hr ht s d x h
  all_goals exact h.elim
theorem zwj (hΓ:CtxOK P Γ) (ht:TmRel Γ.nt ρ nb tm a) (o:Oper) {m:Nat} {K:SV→Blk→Prop} (h:zcx Γ o.op tm m K):zj1 P nb m o a ρ K:=by
  obtain ⟨dst,op,type,pos,after,guard⟩:=o
  cases op
  case alloc t=>exact zxn dst type pos after guard hΓ t h
  case box t x=>exact z4i dst type pos after guard ht t x h
  case makeSlice t x y=>exact zpk dst type pos after guard hΓ ht t x y h
  case buildSlice t n qs=>exact zmp dst type pos after guard hΓ ht t n qs h
  all_goals exact h.elim
theorem zrr (hΓ:CtxOK P Γ) (hr:HpRel ρ hp w) (ht:TmRel Γ.nt ρ hp.length tm a) (o:Oper) {put:SV→List Blk→Prop} {skip:List Blk→Prop} (h:zcm Γ o.op tm hp put skip):
    zdz P o a ρ hp w put skip:=by
  obtain ⟨dst,op,type,pos,after,guard⟩:=o
  cases op
  case store t x y=>exact zss dst type pos after guard hΓ hr ht t x y h
  case convert s d x=>exact zpj dst type pos after guard hΓ hr ht s d x h
  case call c=>exact zvv dst type pos after guard hΓ hr ht c h
  all_goals exact h.elim
end
end Go.Sym
