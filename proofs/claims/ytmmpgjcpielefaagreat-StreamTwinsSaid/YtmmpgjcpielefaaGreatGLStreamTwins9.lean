/-
  The symbolic engine, part 12: calls by symbolic specifications. No program in sight; no condition beyond each lemma's own.
-/
import Derived.Test.YtmmpgjcpielefaaGreatGLStreamTwins8
set_option linter.unusedSimpArgs false
set_option linter.unusedVariables false
namespace Go.Sym
theorem x9: ∀{l:List Nat} {n:Nat},zaz l n=true↔n∈l
  | [],n=>by simp [zaz]
  |x ::xs,n=>by
   simp only [zaz]
   split
   ·rename_i e;have:=Nat.eq_of_beq_eq_true e;simp [this]
   ·rename_i e;have:=Nat.ne_of_beq_eq_false e;rw [x9];simp;intro h;exact absurd h.symm this
theorem zc7 {x:Nat} {xs:List Nat} (h:zeh (x ::xs)=true):x∉xs∧zeh xs=true:=by
  simp only [zeh] at h
  split at h
  ·cases h
  ·rename_i e;exact ⟨(fun hm=>by rw [x9.2 hm] at e;cases e),h⟩
theorem zjg: ∀{l:List Nat} {n:Nat},n∈l→l[zdb l n]?=some n
  |x ::xs,n,h=>by
   simp only [zdb]
   split
   ·rename_i e;simp [Nat.eq_of_beq_eq_true e]
   ·rename_i e
    have hne:=Nat.ne_of_beq_eq_false e
    rcases List.mem_cons.1 h with rfl|h
    ·exact absurd rfl hne
    ·simpa using zjg h
theorem zjf: ∀{l:List Nat} {i j k:Nat},zeh l=true→l[i]?=some k→l[j]?=some k→i=j
  |x ::xs,0,0,_,_,_,_=>rfl
  |x ::xs,0,j+1,k,h,h1,h2=>by
   simp at h1 h2;subst h1
   exact absurd (List.mem_of_getElem? h2) (zc7 h).1
  |x ::xs,i+1,0,k,h,h1,h2=>by
   simp at h1 h2;subst h2
   exact absurd (List.mem_of_getElem? h1) (zc7 h).1
  |x ::xs,i+1,j+1,k,h,h1,h2=>by
   simp at h1 h2
   rw [zjf (zc7 h).2 h1 h2]
theorem zda: ∀{l:List Nat} {n i k:Nat},l[i]?=some k→fwd l n i=k
  |x ::xs,n,0,k,h=>by simp at h;simp [fwd,h]
  |x ::xs,n,i+1,k,h=>by
   have h':xs[i]?=some k:=by simpa using h
   exact zda (l:=xs) h'
theorem zis: ∀{l:List Nat} {n x:Nat},fwd l n (l.length+x)=n+x
  | [],n,x=>by simp [fwd]
  |y ::ys,n,x=>by
   rw [show (y ::ys).length+x=(ys.length+x)+1 by simp;omega]
   exact zis (l:=ys)
theorem Blk.ren_mk {g:Nat→Nat} {b:Blk} {el:TypeId} {ps:List SV} (h:b.ren g= .mk el ps): ∃ps0,b= .mk el ps0∧ps=zb2 g ps0:=by
  cases b with
  |dead=>cases h
  |mk e q=>simp only [Blk.ren,Blk.mk.injEq] at h;exact ⟨q,by rw [h.1],h.2.symm⟩
theorem zuq {g:Nat→Nat}: ∀{new hp:List Blk} {K:List Blk→Prop},zog.newK g new hp K→K (hp++new.map (Blk.ren g))
  | [],hp,K,h=>by
    have h':K hp:=h
    simpa using h'
  |b ::bs,hp,K,h=>by
   have:=zuq (zby h)
   rw [List.append_assoc] at this
   exact this
theorem zvp {α:Type} (l:List α) (k:Nat→Prop):zi1 l k=k l.length:=by
  unfold zi1
  split<;>rfl
theorem zvv {g:Nat→Nat}: ∀{ι:List Nat} {h' hp:List Blk} {K:List Blk→Prop},zeh ι=true→zog g ι h' hp K→
    ι.length≤h'.length∧ ∃hp',K hp'∧hp'.length=hp.length+(h'.length-ι.length)∧(∀k,k<hp.length→k∉ι→hp'[k]?=hp[k]?)∧
      (∀i k:Nat,∀b:Blk,ι[i]?=some k→h'[i]?=some b→hp'[k]?=some (b.ren g))∧(∀x:Nat,∀b:Blk,h'[ι.length+x]?=some b→hp'[hp.length+x]?=some (b.ren g))
  | [],h',hp,K,_,h=>by
    refine ⟨by simp,_,zuq h,by simp,fun k hk _=>List.getElem?_append_left hk,fun i k b hi=>by simp at hi,fun x b hx=>?_⟩
    rw [List.getElem?_append_right (by omega)]
    simp at hx ⊢
    exact ⟨b,hx,rfl⟩
  |i ::is,[],hp,K,_,h=>h.elim
  |i ::is,b ::bs,hp,K,hn,h=>by
   obtain ⟨hni,hns⟩:=zc7 hn
   obtain ⟨hil,h⟩:=zdf h
   obtain ⟨h1,hp',h2,h3,h4,h5,h6⟩:=zvv hns h
   refine ⟨by simpa using h1,hp',h2,by simp at h3 ⊢;omega,fun k hk hm=>?_,fun j k c hj hc=>?_,fun x c hx=>?_⟩
   ·rw [h4 k (by simpa using hk) (fun hm'=>hm (by simp [hm'])),List.getElem?_set_ne (fun e=>hm (by simp [e]))]
   ·cases j with
    |zero=>
     simp at hj hc
     subst hj;subst hc
     rw [h4 i (by simpa using hil) hni,List.getElem?_set_self hil]
    |succ j=>exact h5 j k c (by simpa using hj) (by simpa using hc)
   ·have:=h6 x c (by rw [show (i ::is).length+x=(is.length+x)+1 by simp;omega] at hx;simpa using hx)
    simpa using this
theorem zhh {hp:List Blk} {g:Nat→Nat} {ι0:List Nat}: ∀{ι:List Nat} {K:List Blk→Prop},zf1 hp g ι0 ι K→
    ∃h:List Blk,K h∧h.length=ι.length∧(∀i k:Nat,ι[i]?=some k→k<hp.length)∧
     ∀(i k:Nat) (el:TypeId) (ps:List SV),ι[i]?=some k→h[i]?=some (.mk el ps)→ ∃ps0,hp[k]?=some (.mk el ps0)∧zhe (zaz ι0) ps0=true∧ps=zb2 g ps0
  | [],K,h=>⟨[],h,rfl,fun i k hi=>by simp at hi,fun i k el ps hi=>by simp at hi⟩
  |j ::is,K,h=>by
   unfold zf1 at h
   have hh:=zch h;clear h;obtain ⟨b,hb,h⟩:=hh
   have hjl:j<hp.length:=(List.getElem?_eq_some_iff.1 hb).1
   split at h
   ·rename_i el ps
    split at h
    ·rename_i hall
     obtain ⟨h',h1,h2,h3,h4⟩:=zhh h
     refine ⟨_,h1,by simp [h2],fun i k hi=>?_,fun i k el' ps' hi hm=>?_⟩
     ·cases i with
      |zero=>simp at hi;omega
      |succ i=>exact h3 i k (by simpa using hi)
     ·cases i with
      |zero=>simp at hi hm;subst hi;obtain ⟨rfl,rfl⟩:=hm;exact ⟨ps,hb,hall,rfl⟩
      |succ i=>exact h4 i k el' ps' (by simpa using hi) (by simpa using hm)
    ·exact h.elim
   ·obtain ⟨h',h1,h2,h3,h4⟩:=zhh h
    refine ⟨_,h1,by simp [h2],fun i k hi=>?_,fun i k el' ps' hi hm=>?_⟩
    ·cases i with
     |zero=>simp at hi;omega
     |succ i=>exact h3 i k (by simpa using hi)
    ·cases i with
     |zero=>simp at hm
     |succ i=>exact h4 i k el' ps' (by simpa using hi) (by simpa using hm)
mutual
theorem SV.all_of_ks {p:Nat→Prop}: ∀v:SV,v.ok p→v.ks= []→v.ok (fun _=>False)
  | .bool _,_,_=>trivial
  | .int _,_,_=>trivial
  | .u8 _,_,_=>trivial
  | .u16 _,_,_=>trivial
  | .u32 _,_,_=>trivial
  | .u64 _,_,_=>trivial
  | .str _,_,_=>trivial
  | .ptr ..,_,h=>by simp [SV.ks] at h
  | .nilptr,_,_=>trivial
  | .sl ..,_,h=>by simp [SV.ks] at h
  | .nilsl,_,_=>trivial
  | .func _ caps,h,h'=>by simp only [SV.ok,SV.ks] at h h' ⊢;exact zdw caps h h'
  | .nilfn,_,_=>trivial
  | .nilif,_,_=>trivial
  | .xptr _,_,_=>trivial
  | .xsl ..,h,_=>h
  | .iface _ v,h,h'=>by simp only [SV.ok,SV.ks] at h h' ⊢;exact SV.all_of_ks v h h'
  | .arr8 _ _,h,_=>h
  | .arr32 _ _,h,_=>h
  | .arr64 _ _,h,_=>h
  | .arri _ _,h,_=>h
  | .arrs _ _,h,_=>h
  | .tab _ _ _,h,_=>h
  | .agg ps,h,h'=>by simp only [SV.ok,SV.ks] at h h' ⊢;exact zdw ps h h'
  | .tup vs,h,h'=>by simp only [SV.ok,SV.ks] at h h' ⊢;exact zdw vs h h'
theorem zdw {p:Nat→Prop}: ∀vs:List SV,okL p vs→ksL vs= []→okL (fun _=>False) vs
  | [],_,_=>trivial
  |v ::vs,h,h'=>by
   simp only [ksL,List.append_eq_nil_iff] at h'
   exact ⟨SV.all_of_ks v h.1 h'.1,zdw vs h.2 h'.2⟩
end
section
variable {P:Program} {ρ:Nat→Nat} {hp:List Blk} {w:World}
theorem ztd (hr:HpRel ρ hp w) {f:FuncId} {S:Spec} (hS:zp P f S) {ι:List Nat} (hn:zeh ι=true) {args:List SV} (ha:okL (· <hp.length) args) (hall:zhe (zaz ι) args=true)
    {h:List Blk} (hl:h.length=ι.length) (hlt: ∀i k:Nat,ι[i]?=some k→k<hp.length)
    (hsub: ∀(i k:Nat) (el:TypeId) (ps:List SV),ι[i]?=some k→h[i]?=some (.mk el ps)→ ∃ps0,hp[k]?=some (.mk el ps0)∧zhe (zaz ι) ps0=true∧ps=zb2 (zdb ι) ps0)
    {K:SV→List Blk→Prop} (hcall:S (zb2 (zdb ι) args) h fun r h'=>zog (fwd ι hp.length) ι h' hp fun hp'=>K (r.ren (fwd ι hp.length)) hp'):
    zgs P f (y4 ρ args).toArray ρ hp w K:=by
  let ρ0:Nat→Nat:=fun j=>ρ (fwd ι hp.length j)
  have hback: ∀k,zaz ι k=true→fwd ι hp.length (zdb ι k)=k:=fun k hk=>zda (zjg (x9.1 hk))
  have hidx: ∀k,zaz ι k=true→zdb ι k<ι.length:=fun k hk=>(List.getElem?_eq_some_iff.1 (zjg (x9.1 hk))).1
  have hcell: ∀qs:List SV,∀p:Nat→Prop,okL p qs→zhe (zaz ι) qs=true→zq ρ0 (zb2 (zdb ι) qs)=zq ρ qs:=fun qs p hq hqa=>by
    rw [za8]
    exact xf (p:=fun k=>zaz ι k=true) (fun k hk=>by show ρ (fwd ι hp.length (zdb ι k))=ρ k;rw [hback k hk]) qs (zdc qs hq hqa)
  have hden:y4 ρ0 (zb2 (zdb ι) args)=y4 ρ args:=by
    rw [zdv]
    exact zbw (p:=fun k=>zaz ι k=true) (fun k hk=>by show ρ (fwd ι hp.length (zdb ι k))=ρ k;rw [hback k hk]) args (zdc args ha hall)
  have hρ0: ∀i k,ι[i]?=some k→ρ0 i=ρ k:=fun i k hi=>by show ρ (fwd ι hp.length i)=ρ k;rw [zda hi]
  have hι: ∀i,i<ι.length→ ∃k,ι[i]?=some k:=fun i hi=>⟨ι[i],List.getElem?_eq_getElem hi⟩
  have hrel:HpRel ρ0 h w:=by
    refine ⟨fun i el ps hi=>?_,fun i j el ps el' ps' hi hj he=>?_⟩
    ·have hil:i<ι.length:=by rw [←hl];exact (List.getElem?_eq_some_iff.1 hi).1
     obtain ⟨k,hk⟩:=hι i hil
     obtain ⟨ps0,h1,h2,h3⟩:=hsub i k el ps hk hi
     obtain ⟨g1,el',fz,g2,g3⟩:=hr.mem k el ps0 h1
     refine ⟨?_,el',fz,?_,?_⟩
     ·rw [h3,hl];exact zdd _ (fun k hk=>hidx k hk) ps0 (zdc ps0 g1 h2)
     ·rw [hρ0 i k hk,h3,hcell ps0 _ g1 h2];exact g2
     ·rw [h3,hcell ps0 _ g1 h2];exact g3
    ·have hil:i<ι.length:=by rw [←hl];exact (List.getElem?_eq_some_iff.1 hi).1
     have hjl:j<ι.length:=by rw [←hl];exact (List.getElem?_eq_some_iff.1 hj).1
     obtain ⟨k,hk⟩:=hι i hil
     obtain ⟨k',hk'⟩:=hι j hjl
     obtain ⟨_,h1,_,_⟩:=hsub i k el ps hk hi
     obtain ⟨_,h1',_,_⟩:=hsub j k' el' ps' hk' hj
     rw [hρ0 i k hk,hρ0 j k' hk'] at he
     have:=hr.inj k k' _ _ _ _ h1 h1' he
     subst this
     exact zjf hn hk hk'
  have hargs:okL (· <h.length) (zb2 (zdb ι) args):=by rw [hl];exact zdd _ (fun k hk=>hidx k hk) args (zdc args ha hall)
  have hout:=hS _ h _ hcall ρ0 w hrel hargs
  rw [hden] at hout
  refine hout.mono fun r ρ' h' w' ⟨hK,hrok,hst⟩=>?_
  obtain ⟨hle,hp',hK,hlen,hkeep,hset,hnew⟩:=zvv hn hK
  let ρ1:Nat→Nat:=fun k=>if k<hp.length then ρ k else ρ' (ι.length+(k-hp.length))
  have hfwd: ∀i,ρ1 (fwd ι hp.length i)=ρ' i:=by
    intro i
    rcases Nat.lt_or_ge i ι.length with hi|hi
    ·obtain ⟨k,hk⟩:=hι i hi
     rw [zda hk]
     show (if k<hp.length then _ else _)=_
     rw [if_pos (hlt i k hk),hst.same i (by omega),hρ0 i k hk]
    ·obtain ⟨x,rfl⟩: ∃x,i=ι.length+x:=⟨i-ι.length,by omega⟩
     rw [zis]
     show (if hp.length+x<hp.length then _ else _)=_
     rw [if_neg (by omega)]
     congr 1;omega
  have hfl: ∀i,i<h'.length→fwd ι hp.length i<hp'.length:=by
    intro i hi
    rcases Nat.lt_or_ge i ι.length with hi'|hi'
    ·obtain ⟨k,hk⟩:=hι i hi'
     rw [zda hk];have:=hlt i k hk;omega
    ·obtain ⟨x,rfl⟩: ∃x,i=ι.length+x:=⟨i-ι.length,by omega⟩
     rw [zis];omega
  have hcells: ∀qs:List SV,zq ρ1 (zb2 (fwd ι hp.length) qs)=zq ρ' qs:=fun qs=>by
    rw [za8];congr 1;funext k;exact hfwd k
  have hfrom: ∀(k:Nat) (el:TypeId) (ps:List SV),hp'[k]?=some (.mk el ps)→
   (k<hp.length∧k∉ι∧hp[k]?=some (.mk el ps))∨ ∃(i:Nat) (ps0:List SV),h'[i]?=some (.mk el ps0)∧ps=zb2 (fwd ι hp.length) ps0∧ρ1 k=ρ' i∧(i<ι.length→ι[i]?=some k)∧(ι.length≤i→k=hp.length+(i-ι.length)):=by
    intro k el ps hk
    have hkl:k<hp'.length:=(List.getElem?_eq_some_iff.1 hk).1
    rcases Nat.lt_or_ge k hp.length with hkh|hkh
    ·by_cases hm:k∈ι
     ·obtain ⟨i,hi⟩:=List.getElem?_of_mem hm
      have hil:i<ι.length:=(List.getElem?_eq_some_iff.1 hi).1
      have hb:h'[i]?=some (h'[i]'(by omega)):=List.getElem?_eq_getElem (by omega)
      have:=hset i k _ hi hb
      rw [hk] at this
      obtain ⟨ps0,e1,e2⟩:=Blk.ren_mk (Option.some.inj this).symm
      rw [e1] at hb
      refine .inr ⟨i,ps0,hb,e2,?_,fun _=>hi,fun h=>by omega⟩
      rw [←hfwd i,zda hi]
     ·exact .inl ⟨hkh,hm,by rw [←hkeep k hkh hm];exact hk⟩
    ·obtain ⟨x,rfl⟩: ∃x,k=hp.length+x:=⟨k-hp.length,by omega⟩
     have hb:h'[ι.length+x]?=some (h'[ι.length+x]'(by omega)):=List.getElem?_eq_getElem (by omega)
     have:=hnew x _ hb
     rw [hk] at this
     obtain ⟨ps0,e1,e2⟩:=Blk.ren_mk (Option.some.inj this).symm
     rw [e1] at hb
     refine .inr ⟨ι.length+x,ps0,hb,e2,?_,fun h=>by omega,fun _=>by omega⟩
     rw [←hfwd,zis]
  have hfoot0: ∀b,zgf ρ0 h b→ ∃(i k:Nat) (el:TypeId) (ps:List SV),ι[i]?=some k∧hp[k]?=some (.mk el ps)∧ρ k=b:=by
    rintro b ⟨i,el,ps,hi,rfl⟩
    have hil:i<ι.length:=by rw [←hl];exact (List.getElem?_eq_some_iff.1 hi).1
    obtain ⟨k,hk⟩:=hι i hil
    obtain ⟨ps0,h1,_,_⟩:=hsub i k el ps hk hi
    exact ⟨i,k,el,ps0,hk,h1,(hρ0 i k hk).symm⟩
  have hfootT: ∀b,zgf ρ0 h b→zgf ρ hp b:=fun b hb=>by
    obtain ⟨i,k,el,ps,_,h1,h2⟩:=hfoot0 b hb
    exact ⟨k,el,ps,h1,h2⟩
  have hout0: ∀(k:Nat) (el:TypeId) (ps:List SV),hp[k]?=some (.mk el ps)→k∉ι→ ¬zgf ρ0 h (ρ k):=by
    intro k el ps hk hm hf
    obtain ⟨i,k',el',ps',hi,h1,h2⟩:=hfoot0 _ hf
    have:=hr.inj k' k _ _ _ _ h1 hk h2
    subst this
    exact hm (List.mem_of_getElem? hi)
  have hρ1: ∀k,k<hp.length→ρ1 k=ρ k:=fun k hk=>by show (if k<hp.length then _ else _)=_;rw [if_pos hk]
  have hlenle:hp.length≤hp'.length:=by omega
  refine ⟨r.ren (fwd ι hp.length),ρ1,hp',?_,hK,?_,⟨⟨?_,?_⟩,hρ1,hlenle,hst.ext.mono hfootT,?_⟩⟩
  ·rw [SV.den_ren];congr 1;funext k;exact hfwd k
  ·exact SV.ok_ren _ hfl r hrok
  ·intro k el ps hk
   rcases hfrom k el ps hk with ⟨hkh,hm,hk0⟩|⟨i,ps0,hi,rfl,he,_,_⟩
   ·obtain ⟨g1,el',fz,g2,g3⟩:=hr.mem k el ps hk0
    have hc:zq ρ1 ps=zq ρ ps:=xf (p:=(· <hp.length)) (fun k hk=>hρ1 k hk) ps g1
    refine ⟨yq (fun x hx=>Nat.lt_of_lt_of_le hx hlenle) ps g1,el',fz,?_,?_⟩
    ·rw [hρ1 k hkh,hc,hst.ext.keep _ (hr.lt hk0) (hout0 k el ps hk0 hm)];exact g2
    ·rw [hc];exact g3
   ·obtain ⟨g1,el',fz,g2,g3⟩:=hst.rel.mem i el ps0 hi
    refine ⟨zdd _ hfl ps0 g1,el',fz,?_,?_⟩
    ·rw [he,hcells];exact g2
    ·rw [hcells];exact g3
  ·intro k k' el ps el' ps' hk hk' he
   rcases hfrom k el ps hk with ⟨hkh,hm,hk0⟩|⟨i,ps0,hi,_,e1,e2,e3⟩<;>rcases hfrom k' el' ps' hk' with ⟨hkh',hm',hk0'⟩|⟨i',ps0',hi',_,e1',e2',e3'⟩
   ·rw [hρ1 k hkh,hρ1 k' hkh'] at he;exact hr.inj k k' _ _ _ _ hk0 hk0' he
   ·rw [hρ1 k hkh,e1'] at he
    rcases hst.foot (ρ' i') ⟨i',_,_,hi',rfl⟩ with hf|hf
    ·exact absurd (he ▸ hf) (hout0 k el ps hk0 hm)
    ·have:=hr.lt hk0;omega
   ·rw [hρ1 k' hkh',e1] at he
    rcases hst.foot (ρ' i) ⟨i,_,_,hi,rfl⟩ with hf|hf
    ·exact absurd (he ▸ hf) (hout0 k' el' ps' hk0' hm')
    ·have:=hr.lt hk0';omega
   ·rw [e1,e1'] at he
    have:=hst.rel.inj i i' _ _ _ _ hi hi' he
    subst this
    rcases Nat.lt_or_ge i ι.length with hil|hil
    ·have a:=e2 hil;have b:=e2' hil;rw [a] at b;exact Option.some.inj b
    ·rw [e3 hil,e3' hil]
  ·rintro b ⟨k,el,ps,hk,rfl⟩
   rcases hfrom k el ps hk with ⟨hkh,hm,hk0⟩|⟨i,ps0,hi,_,e1,_,_⟩
   ·rw [hρ1 k hkh];exact .inl ⟨k,el,ps,hk0,rfl⟩
   ·rw [e1]
    rcases hst.foot (ρ' i) ⟨i,_,_,hi,rfl⟩ with hf|hf
    ·exact .inl (hfootT _ hf)
    ·exact .inr hf
theorem z55 (hr:HpRel ρ hp w) {f:FuncId} {S:Spec} (hS:zp P f S) {args:List SV} (ha:okL (· <hp.length) args) {K:SV→List Blk→Prop} (h:z1z S args hp K):
    zgs P f (y4 ρ args).toArray ρ hp w K:=by
  unfold z1z at h
  split at h
  ·rename_i hk
   have h0:=zdw args ha hk
   have hrel:HpRel ρ [] w:=⟨fun k el ps hk=>by simp at hk,fun k k' el ps el' ps' hk=>by simp at hk⟩
   have hout:=hS args [] _ h ρ w hrel (yq (fun _ hf=>hf.elim) args h0)
   refine hout.mono fun r ρ' h' w' ⟨hK,hrok,hst⟩=>?_
   have hext:Ext (zgf ρ hp) w w':=hst.ext.mono (fun b ⟨k,_,_,hk,_⟩=>by simp at hk)
   have hkeep: ∀(k:Nat) (el:TypeId) (ps:List SV),hp[k]?=some (.mk el ps)→w'.heap[ρ k]?=w.heap[ρ k]?:=fun k el ps hk=>hst.ext.keep _ (hr.lt hk) (fun ⟨k,_,_,hk,_⟩=>by simp at hk)
   dsimp only at hK
   split at hK
   ·split at hK
    ·rename_i hkr
     have hr0:r.ok (fun _=>False):=SV.all_of_ks r hrok (by simpa [ksL] using hkr)
     refine ⟨r,ρ,hp,SV.den_congr (fun _ hf=>hf.elim) r hr0,hK,SV.ok_mono (fun _ hf=>hf.elim) r hr0,⟨⟨fun k el ps hk=>?_,hr.inj⟩,fun _ _=>rfl,Nat.le_refl _,hext,fun b hb=> .inl hb⟩⟩
     obtain ⟨g1,el',fz,g2,g3⟩:=hr.mem k el ps hk
     exact ⟨g1,el',fz,by rw [hkeep k el ps hk];exact g2,g3⟩
    ·exact hK.elim
   ·have hK:=zdh hK
    have h1:=zuq hK
    clear hK
    let ρ1:Nat→Nat:=fun k=>if k<hp.length then ρ k else ρ' (k-hp.length)
    have hρ1: ∀k,k<hp.length→ρ1 k=ρ k:=fun k hk=>by show (if k<hp.length then _ else _)=_;rw [if_pos hk]
    have hρ2: ∀i,ρ1 (hp.length+i)=ρ' i:=fun i=>by show (if hp.length+i<hp.length then _ else _)=_;rw [if_neg (by omega)];congr 1;omega
    have hcells: ∀qs:List SV,zq ρ1 (zb2 (fun i=>hp.length+i) qs)=zq ρ' qs:=fun qs=>by rw [za8];congr 1;funext k;exact hρ2 k
    have hlen:(hp++h'.map (Blk.ren fun i=>hp.length+i)).length=hp.length+h'.length:=by simp
    have hfrom: ∀(k:Nat) (el:TypeId) (ps:List SV),(hp++h'.map (Blk.ren fun i=>hp.length+i))[k]?=some (.mk el ps)→
     (k<hp.length∧hp[k]?=some (.mk el ps))∨ ∃(i:Nat) (ps0:List SV),h'[i]?=some (.mk el ps0)∧ps=zb2 (fun i=>hp.length+i) ps0∧k=hp.length+i:=by
      intro k el ps hk
      rcases Nat.lt_or_ge k hp.length with hkl|hkl
      ·rw [List.getElem?_append_left hkl] at hk;exact .inl ⟨hkl,hk⟩
      ·rw [List.getElem?_append_right hkl,List.getElem?_map] at hk
       cases hb:h'[k-hp.length]? with
       |none=>rw [hb] at hk;simp at hk
       |some b=>
        rw [hb] at hk
        obtain ⟨ps0,e1,e2⟩:=Blk.ren_mk (Option.some.inj hk)
        exact .inr ⟨k-hp.length,ps0,by rw [hb,e1],e2,by omega⟩
    refine ⟨_,ρ1,_,?_,h1,?_,⟨⟨fun k el ps hk=>?_,fun k k' el ps el' ps' hk hk' he=>?_⟩,hρ1,by omega,hext,?_⟩⟩
    ·rw [SV.den_ren];congr 1;funext k;exact hρ2 k
    ·rw [hlen];exact SV.ok_ren _ (fun k hk=>by omega) r hrok
    ·rcases hfrom k el ps hk with ⟨hkl,hk0⟩|⟨i,ps0,hi,rfl,rfl⟩
     ·obtain ⟨g1,el',fz,g2,g3⟩:=hr.mem k el ps hk0
      have hc:zq ρ1 ps=zq ρ ps:=xf (p:=(· <hp.length)) (fun k hk=>hρ1 k hk) ps g1
      exact ⟨yq (fun x hx=>by rw [hlen];omega) ps g1,el',fz,by rw [hρ1 k hkl,hc,hkeep k el ps hk0];exact g2,by rw [hc];exact g3⟩
     ·obtain ⟨g1,el',fz,g2,g3⟩:=hst.rel.mem i el ps0 hi
      exact ⟨zdd _ (fun k hk=>by rw [hlen];omega) ps0 g1,el',fz,by rw [hρ2,hcells];exact g2,by rw [hcells];exact g3⟩
    ·rcases hfrom k el ps hk with ⟨hkl,hk0⟩|⟨i,ps0,hi,_,rfl⟩<;>rcases hfrom k' el' ps' hk' with ⟨hkl',hk0'⟩|⟨i',ps0',hi',_,rfl⟩
     ·rw [hρ1 k hkl,hρ1 k' hkl'] at he;exact hr.inj k k' _ _ _ _ hk0 hk0' he
     ·rw [hρ1 k hkl,hρ2] at he
      rcases hst.foot (ρ' i') ⟨i',_,_,hi',rfl⟩ with ⟨_,_,_,hf,_⟩|hf
      ·simp at hf
      ·have:=hr.lt hk0;omega
     ·rw [hρ1 k' hkl',hρ2] at he
      rcases hst.foot (ρ' i) ⟨i,_,_,hi,rfl⟩ with ⟨_,_,_,hf,_⟩|hf
      ·simp at hf
      ·have:=hr.lt hk0';omega
     ·rw [hρ2,hρ2] at he
      rw [hst.rel.inj i i' _ _ _ _ hi hi' he]
    ·rintro b ⟨k,el,ps,hk,rfl⟩
     rcases hfrom k el ps hk with ⟨hkl,hk0⟩|⟨i,ps0,hi,_,rfl⟩
     ·rw [hρ1 k hkl];exact .inl ⟨k,el,ps,hk0,rfl⟩
     ·rw [hρ2]
      rcases hst.foot (ρ' i) ⟨i,_,_,hi,rfl⟩ with ⟨_,_,_,hf,_⟩|hf
      ·simp at hf
      ·exact .inr hf
  ·have reach: ∀(fuel:Nat) (todo seen:List Nat) (K0:List Nat→Prop),zjt hp fuel todo seen K0→ ∃ι,K0 ι:=by
     intro fuel
     induction fuel with
     |zero=>intro _ _ _ h;cases h
     |succ fuel ih=>
      intro todo seen K0 h
      cases todo with
      |nil=>exact ⟨_,h⟩
      |cons k todo=>
       simp only [zjt] at h
       split at h
       ·exact ih _ _ _ h
       ·obtain ⟨b,_,h⟩:=zch h
        split at h
        ·exact ih _ _ _ (zd9 (zby h))
        ·exact ih _ _ _ (zby h)
   have hh:=reach _ _ _ _ h;clear h;obtain ⟨ι,h⟩:=hh
   split at h
   ·rename_i hn
    split at h
    ·rename_i hall
     have hh:=zhh h;clear h;obtain ⟨h0,h,hl,hlt,hsub⟩:=hh
     simp only [zvp] at h
     exact ztd hr hS hn ha hall hl hlt hsub h
    ·exact h.elim
   ·exact h.elim
end
end Go.Sym
