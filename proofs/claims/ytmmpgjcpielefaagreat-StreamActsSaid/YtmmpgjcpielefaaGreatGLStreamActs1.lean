/-
  The symbolic engine, part 4: what a symbolic heap says of the model's memory; reading and writing cells. No program in sight; no condition beyond each lemma's own.
-/
import Derived.Test.YtmmpgjcpielefaaGreatGLStreamActs0
import Derived.Calls
import Derived.Orders
import Derived.Laws.Cells
set_option linter.unusedSimpArgs false
set_option linter.unusedVariables false
namespace Go.Sym
structure HpRel (ρ:Nat→Nat) (hp:List Blk) (w:World):Prop where
  mem: ∀k el ps,hp[k]?=some (.mk el ps)→okL (· <hp.length) ps∧
    ∃(el':TypeId) (fz:Nat×Nat),w.heap[ρ k]?=some (.cells (zw ρ ps).toArray el' fz)∧(fz.2≤fz.1∨(zw ρ ps).length≤fz.1)
  inj: ∀k k' el ps el' ps',hp[k]?=some (.mk el ps)→hp[k']?=some (.mk el' ps')→ρ k=ρ k'→k=k'
def zgq (ρ:Nat→Nat) (hp:List Blk) (b:Nat):Prop:= ∃k el ps,hp[k]?=some (.mk el ps)∧ρ k=b
structure Ext (F:Nat→Prop) (w w':World):Prop where
  size:w.heap.size≤w'.heap.size
  keep: ∀b,b<w.heap.size→ ¬F b→w'.heap[b]?=w.heap[b]?
  os:w'.os=w.os
  out:w'.output=w.output
  tape:w'.tape=w.tape
theorem Ext.refl (F:Nat→Prop) (w:World):Ext F w w:=⟨Nat.le_refl _,fun _ _ _=>rfl,rfl,rfl,rfl⟩
theorem Ext.trans {F G:Nat→Prop} {w w1 w2:World} (h:Ext F w w1) (h':Ext G w1 w2) (hF: ∀b,G b→F b∨w.heap.size≤b):Ext F w w2:=
  ⟨Nat.le_trans h.size h'.size,fun b hb hn=>by
    rw [h'.keep b (Nat.lt_of_lt_of_le hb h.size) (fun hg=>(hF b hg).elim hn (fun hl=>absurd hb (Nat.not_lt.2 hl))),h.keep b hb hn],
   h'.os.trans h.os,h'.out.trans h.out,h'.tape.trans h.tape⟩
theorem Ext.mono {F G:Nat→Prop} {w w1:World} (h:Ext F w w1) (hF: ∀b,F b→G b):Ext G w w1:=
  ⟨h.size,fun b hb hn=>h.keep b hb (fun hf=>hn (hF b hf)),h.os,h.out,h.tape⟩
structure Step (ρ:Nat→Nat) (hp:List Blk) (w:World) (ρ':Nat→Nat) (hp':List Blk) (w':World):Prop where
  rel:HpRel ρ' hp' w'
  same: ∀k,k<hp.length→ρ' k=ρ k
  le:hp.length≤hp'.length
  ext:Ext (zgq ρ hp) w w'
  foot: ∀b,zgq ρ' hp' b→zgq ρ hp b∨w.heap.size≤b
theorem Step.refl {ρ:Nat→Nat} {hp:List Blk} {w:World} (h:HpRel ρ hp w):Step ρ hp w ρ hp w:=
  ⟨h,fun _ _=>rfl,Nat.le_refl _,Ext.refl _ _,fun _ h=> .inl h⟩
theorem zc7 {α:Type} {l:List α} {x:α} {k:List α→Prop} (h:zgk l x k):k (l++ [x]):=by
  induction l generalizing k with
  |nil=>exact h
  |cons y ys ih=>exact ih h
theorem zfl {α:Type} {a b:List α} {k:List α→Prop} (h:zei a b k):k (a++b):=by
  induction a generalizing k with
  |nil=>exact h
  |cons y ys ih=>exact ih h
theorem zes {α:Type} {l:List α} {i:Nat} {y:α} {k:List α→Prop} (h:zjm l i y k):i<l.length∧k (l.set i y):=by
  induction l generalizing k i with
  |nil=>exact h.elim
  |cons x xs ih=>
   cases i with
   |zero=>exact ⟨by simp,h⟩
   |succ i=>obtain ⟨h1,h2⟩:=ih h;exact ⟨by simp;omega,h2⟩
theorem zdo {α:Type} {l:List α} {i:Nat} {k:α→Prop} (h:zfe l i k): ∃x,l[i]?=some x∧k x:=by
  induction l generalizing i with
  |nil=>exact h.elim
  |cons x xs ih=>
   cases i with
   |zero=>exact ⟨x,rfl,h⟩
   |succ i=>obtain ⟨y,h1,h2⟩:=ih h;exact ⟨y,by simpa using h1,h2⟩
def y8 {α:Type}:List (Nat×α)→Nat→Option α
  | [],_=>none
  |(i,v) ::r,n=>if i=n then some v else y8 r n
theorem yd {α:Type} {l:List (Nat×α)} {n:Nat} {k:α→Prop} (h:yn l n k): ∃x,y8 l n=some x∧k x:=by
  induction l with
  |nil=>exact h.elim
  |cons p r ih=>
   obtain ⟨i,v⟩:=p
   simp only [yn] at h
   simp only [y8]
   split at h
   ·rename_i e;rw [if_pos (Nat.eq_of_beq_eq_true e)];exact ⟨v,rfl,h⟩
   ·rename_i e;rw [if_neg (Nat.ne_of_beq_eq_false e)];exact ih h
theorem zev {α:Type} {l:List α} {k:Nat→Prop} (h:zkf l k):k l.length:=by
  unfold zkf at h
  split at h<;>exact h
theorem z83 {p:Nat→Prop} (ρ:Nat→Nat):
    (∀v:SV,∀k:List SV→Prop,zcr v k→ ∃fs,k fs∧zw ρ fs=v.cells ρ∧yc fs=v.size∧(v.ok p→okL p fs))∧
    (∀vs:List SV,∀k:List SV→Prop,zfw vs k→ ∃fs,k fs∧zw ρ fs=zw ρ vs∧yc fs=yc vs∧(okL p vs→okL p fs)):=by
  have scal: ∀v:SV,∀k:List SV→Prop,k [v]→ ∃fs,k fs∧zw ρ fs=v.cells ρ∧yc fs=v.size∧(v.ok p→okL p fs):=
    fun v k h=>⟨[v],h,by simp [zw],by simp [yc],fun hv=>⟨hv,trivial⟩⟩
  refine ⟨fun v=>?_,fun vs=>?_⟩
  ·exact SV.rec (motive_1:=fun v=> ∀k:List SV→Prop,zcr v k→ ∃fs,k fs∧zw ρ fs=v.cells ρ∧yc fs=v.size∧(v.ok p→okL p fs))
     (motive_2:=fun vs=> ∀k:List SV→Prop,zfw vs k→ ∃fs,k fs∧zw ρ fs=zw ρ vs∧yc fs=yc vs∧(okL p vs→okL p fs))
     (fun b k h=>scal (.bool b) k h) (fun b k h=>scal (.int b) k h) (fun b k h=>scal (.u8 b) k h) (fun b k h=>scal (.u16 b) k h) (fun b k h=>scal (.u32 b) k h)
     (fun b k h=>scal (.u64 b) k h) (fun b k h=>scal (.str b) k h) (fun a b c d k h=>scal (.ptr a b c d) k h) (fun k h=>scal .nilptr k h)
     (fun a b c d e f k h=>scal (.sl a b c d e f) k h) (fun k h=>scal .nilsl k h) (fun a b _ k h=>scal (.func a b) k h) (fun k h=>scal .nilfn k h)
     (fun k h=>scal .nilif k h) (fun a b _ k h=>scal (.iface a b) k h) (fun a b k h=>scal (.arr8 a b) k h) (fun a b k h=>scal (.arr32 a b) k h) (fun a b k h=>scal (.arr64 a b) k h)
     (fun a b k h=>scal (.arri a b) k h) (fun a b k h=>scal (.arrs a b) k h) (fun a b c k h=>scal (.tab a b c) k h)
     (fun ps ih k h=>by
       obtain ⟨fs,h1,h2,h3,h4⟩:=ih k h
       exact ⟨fs,h1,h2,h3,h4⟩)
     (fun vs _ k h=>scal (.tup vs) k h) (fun a k h=>scal (.xptr a) k h) (fun a n c k h=>scal (.xsl a n c) k h)
     (fun k h=>⟨[],h,rfl,rfl,fun _=>trivial⟩)
     (fun v vs ihv ihs k h=>by
       obtain ⟨a,h1,h2,h3,h4⟩:=ihv _ h
       obtain ⟨b,g1,g2,g3,g4⟩:=ihs _ h1
       refine ⟨a++b,zfl g1,?_,?_,fun hv=>xi.2 ⟨h4 hv.1,g4 hv.2⟩⟩
       ·rw [ym,h2,g2];rfl
       ·have: ∀x y:List SV,yc (x++y)=yc x+yc y:=fun x y=>by
          induction x with
          |nil=>simp [yc]
          |cons z zs ih=>simp only [List.cons_append,yc,ih];omega
        rw [this,h3,g3];rfl) v
  ·induction vs with
   |nil=>exact fun k h=>⟨[],h,rfl,rfl,fun _=>trivial⟩
   |cons v vs ihs=>
    intro k h
    have ihv: ∀k:List SV→Prop,zcr v k→ ∃fs,k fs∧zw ρ fs=v.cells ρ∧yc fs=v.size∧(v.ok p→okL p fs):=by
      exact SV.rec (motive_1:=fun v=> ∀k:List SV→Prop,zcr v k→ ∃fs,k fs∧zw ρ fs=v.cells ρ∧yc fs=v.size∧(v.ok p→okL p fs))
        (motive_2:=fun vs=> ∀k:List SV→Prop,zfw vs k→ ∃fs,k fs∧zw ρ fs=zw ρ vs∧yc fs=yc vs∧(okL p vs→okL p fs))
        (fun b k h=>scal (.bool b) k h) (fun b k h=>scal (.int b) k h) (fun b k h=>scal (.u8 b) k h) (fun b k h=>scal (.u16 b) k h) (fun b k h=>scal (.u32 b) k h)
        (fun b k h=>scal (.u64 b) k h) (fun b k h=>scal (.str b) k h) (fun a b c d k h=>scal (.ptr a b c d) k h) (fun k h=>scal .nilptr k h)
        (fun a b c d e f k h=>scal (.sl a b c d e f) k h) (fun k h=>scal .nilsl k h) (fun a b _ k h=>scal (.func a b) k h) (fun k h=>scal .nilfn k h)
        (fun k h=>scal .nilif k h) (fun a b _ k h=>scal (.iface a b) k h) (fun a b k h=>scal (.arr8 a b) k h) (fun a b k h=>scal (.arr32 a b) k h) (fun a b k h=>scal (.arr64 a b) k h)
        (fun a b k h=>scal (.arri a b) k h) (fun a b k h=>scal (.arrs a b) k h) (fun a b c k h=>scal (.tab a b c) k h)
        (fun ps ih k h=>by
          obtain ⟨fs,h1,h2,h3,h4⟩:=ih k h
          exact ⟨fs,h1,h2,h3,h4⟩)
        (fun vs _ k h=>scal (.tup vs) k h) (fun a k h=>scal (.xptr a) k h) (fun a n c k h=>scal (.xsl a n c) k h)
        (fun k h=>⟨[],h,rfl,rfl,fun _=>trivial⟩)
        (fun v vs ihv ihs k h=>by
          obtain ⟨a,h1,h2,h3,h4⟩:=ihv _ h
          obtain ⟨b,g1,g2,g3,g4⟩:=ihs _ h1
          refine ⟨a++b,zfl g1,?_,?_,fun hv=>xi.2 ⟨h4 hv.1,g4 hv.2⟩⟩
          ·rw [ym,h2,g2];rfl
          ·have: ∀x y:List SV,yc (x++y)=yc x+yc y:=fun x y=>by
             induction x with
             |nil=>simp [yc]
             |cons z zs ih=>simp only [List.cons_append,yc,ih];omega
           rw [this,h3,g3];rfl) v
    obtain ⟨a,h1,h2,h3,h4⟩:=ihv _ h
    obtain ⟨b,g1,g2,g3,g4⟩:=ihs _ h1
    refine ⟨a++b,zfl g1,?_,?_,fun hv=>xi.2 ⟨h4 hv.1,g4 hv.2⟩⟩
    ·rw [ym,h2,g2];rfl
    ·have: ∀x y:List SV,yc (x++y)=yc x+yc y:=fun x y=>by
       induction x with
       |nil=>simp [yc]
       |cons z zs ih=>simp only [List.cons_append,yc,ih];omega
     rw [this,h3,g3];rfl
theorem zfs {p:Nat→Prop} (ρ:Nat→Nat) {v:SV} {k:List SV→Prop} (h:zcr v k): ∃fs,k fs∧zw ρ fs=v.cells ρ∧yc fs=v.size∧(v.ok p→okL p fs):=
  (z83 ρ).1 v k h
theorem ze9 {ps:List SV} {j b:Nat} {k:List SV→List SV→Prop} (h:zce ps j b k): ∃a r,ps=a++r∧yc a=b∧k a r:=by
  induction ps generalizing j b k with
  |nil=>
   cases j with
   |zero=>
    simp only [zce] at h
    split at h
    ·rename_i e;exact ⟨[],[],rfl,(Nat.eq_of_beq_eq_true e).symm,h⟩
    ·exact h.elim
   |succ j=>exact h.elim
  |cons p ps ih=>
   cases j with
   |zero=>
    simp only [zce] at h
    split at h
    ·rename_i e;exact ⟨[],p ::ps,rfl,(Nat.eq_of_beq_eq_true e).symm,h⟩
    ·exact h.elim
   |succ j=>
    simp only [zce] at h
    split at h
    ·rename_i e
     obtain ⟨a,r,h1,h2,h3⟩:=ih h
     exact ⟨p ::a,r,by rw [h1];rfl,by simp only [yc,h2];have:=Nat.le_of_ble_eq_true e;omega,h3⟩
    ·exact h.elim
theorem z01 {ps:List SV} {n:Nat} {k:List SV→List SV→Prop} (h:zg5 ps n k): ∃a r,ps=a++r∧yc a=n∧k a r:=by
  induction ps generalizing n k with
  |nil=>
   cases n with
   |zero=>exact ⟨[],[],rfl,rfl,h⟩
   |succ n=>exact h.elim
  |cons p ps ih=>
   cases n with
   |zero=>exact ⟨[],p ::ps,rfl,rfl,h⟩
   |succ n=>
    simp only [zg5] at h
    split at h
    ·rename_i e
     obtain ⟨a,r,h1,h2,h3⟩:=ih h
     exact ⟨p ::a,r,by rw [h1];rfl,by simp only [yc,h2];have:=Nat.le_of_ble_eq_true e;omega,h3⟩
    ·exact h.elim
theorem zx2 {v:SV} (h:v.isRow=true):v.many=true:=by cases v<;>first|rfl|(simp [SV.isRow] at h)
theorem z1x {p:Nat→Prop} {ps:List SV} {k:SV→Prop} (h:zjq ps k): ∃v:SV,v.many=true∧(∀ρ,v.cells ρ=zw ρ ps)∧(okL p ps→v.ok p)∧k v:=by
  unfold zjq at h
  split at h
  ·rename_i q
   split at h
   ·rename_i e;exact ⟨q,zx2 e,fun ρ=>by simp [zw],fun hp=>hp.1,h⟩
   ·exact ⟨.agg [q],rfl,fun ρ=>rfl,fun hp=>hp,h⟩
  ·exact ⟨.agg ps,rfl,fun ρ=>rfl,fun hp=>hp,h⟩
theorem zm5 {ps:List SV} {j b c:Nat} {k:Nat→Nat→List (Nat×Nat)→Prop} (h:zg8 ps j b c k): ∃j' b' o',b'+off o'=b+c∧k j' b' o':=by
  induction ps generalizing j b c with
  |nil=>
   cases c with
   |zero=>exact ⟨j,b,[],by simp [off],h⟩
   |succ c=>exact h.elim
  |cons p ps ih=>
   cases c with
   |zero=>exact ⟨j,b,[],by simp [off],h⟩
   |succ c=>
    simp only [zg8] at h
    split at h
    ·rename_i e
     obtain ⟨j',b',o',h1,h2⟩:=ih h
     exact ⟨j',b',o',by have:=Nat.le_of_ble_eq_true e;omega,h2⟩
    ·split at h
     ·exact ⟨j,b,[(c+1,1)],by simp [off,zc3],h⟩
     ·exact h.elim
theorem zy (o:List (Nat×Nat)) (i e:Nat):off (yb o i e)=off o+i*e:=by
  induction o with
  |nil=>simp [yb,off,zc3]
  |cons x r ih=>
   obtain ⟨i',e'⟩:=x
   cases r with
   |nil=>
    simp only [yb]
    split
    ·rename_i h
     have:=Nat.eq_of_beq_eq_true h
     subst this
     simp [off,zc3,Nat.add_mul]
    ·simp [off,zc3]
   |cons y r=>simp only [yb];rw [zu5,zu5,ih];omega
theorem HpRel.cell {ρ:Nat→Nat} {hp:List Blk} {w:World} (h:HpRel ρ hp w) {k:Nat} {el:TypeId} {ps:List SV} (hk:hp[k]?=some (.mk el ps)) (i:Nat):
    w.cell? ⟨ρ k,i,none⟩=(zw ρ ps)[i]?:=by
  obtain ⟨_,_,fz,h1,_⟩:=h.mem k el ps hk
  simp [World.cell?,h1]
theorem zdc (b s n:Nat):(⟨b,s,none⟩:Addr).add n=⟨b,s+n,none⟩:=by
  unfold Addr.add
  split
  ·rename_i e;subst e;rfl
  ·rfl
theorem zak {P:Program} {w:World} {b s:Nat} {L M:List Value} (hc: ∀i,w.cell? ⟨b,i,none⟩=L[i]?) (hM: ∀i,i<M.length→L[s+i]?=M[i]?):
    (loadCells ⟨b,s,none⟩ M.length).run P w= .ok M.toArray w:=by
  refine run_loadCells_list w _ M fun j v hv=>?_
  rw [zdc,hc]
  have hj:j<M.length:=by
    rcases Nat.lt_or_ge j M.length with h|h
    ·exact h
    ·rw [List.getElem?_eq_none h] at hv;cases hv
  rw [hM j hj,hv]
def World.putAt (w:World) (b:Nat) (o:Obj):World:={w with heap:=w.heap.setIfInBounds b o}
theorem zaa {P:Program} {b s:Nat} {el:TypeId} {fz:Nat×Nat}: ∀(vs:List Value) (i:Nat) (L:List Value) (w:World),
    w.heap[b]?=some (.cells L.toArray el fz)→(fz.2≤fz.1∨L.length≤fz.1)→s+i+vs.length≤L.length→(∀v∈vs,v.oneCell'=true)→
    (storeCells ⟨b,s,none⟩ vs i).run P w= .ok () (World.putAt w b (.cells (zx L (s+i) vs).toArray el fz))
  | [],i,L,w,hb,_,hl,_=>by
    have e:zx L (s+i) []=L:=by simp [zx]
    have hlt:b<w.heap.size:=(Array.getElem?_eq_some_iff.1 hb).1
    have hv:w.heap[b]= .cells L.toArray el fz:=(Array.getElem?_eq_some_iff.1 hb).2
    rw [e]
    show Result.ok () w=_
    congr 1
    unfold World.putAt
    cases w with
    |mk heap tape drawn os output=>
     congr 1
     simp only at hv
     rw [←hv]
     refine Array.ext_getElem? fun x=>?_
     rw [Array.getElem?_setIfInBounds]
     split
     ·rename_i e;subst e;exact Array.getElem?_eq_getElem hlt
     ·rfl
  |v ::vs,i,L,w,hb,hf,hl,h1=>by
   have hi:s+i<L.length:=by simp at hl;omega
   have hcell:w.cell? ⟨b,s+i,none⟩=some (L[s+i]):=by simp [World.cell?,hb,hi]
   have hfro:w.frozen? ⟨b,s+i,none⟩=false:=by
     simp only [World.frozen?,hb]
     simp only [Bool.and_eq_false_imp,decide_eq_true_eq,decide_eq_false_iff_not]
     intro h;rcases hf with h'|h'<;>omega
   have hlt:b<w.heap.size:=(Array.getElem?_eq_some_iff.1 hb).1
   have hst:(store ((⟨b,s,none⟩:Addr).add i) v).run P w= .ok () (World.putAt w b (.cells (L.set (s+i) v).toArray el fz)):=by
     rw [zdc,run_store P w _ v _ (h1 v (by simp)),hcell]
     simp only [hfro,Bool.false_eq_true,if_false]
     congr 1
     unfold World.setCell World.putAt
     congr 1
     refine Array.ext_getElem? fun x=>?_
     rw [Array.getElem?_setIfInBounds,Array.getElem?_modify]
     by_cases e:b=x
     ·subst e
      have hbx:w.heap[b]= .cells L.toArray el fz:=(Array.getElem?_eq_some_iff.1 hb).2
      simp [hlt,hbx]
     ·simp [e]
   have hb2:(World.putAt w b (.cells (L.set (s+i) v).toArray el fz)).heap[b]?=some (.cells (L.set (s+i) v).toArray el fz):=by
     simp [World.putAt,hlt]
   have ih:=zaa (P:=P) (s:=s) vs (i+1) (L.set (s+i) v) _ hb2 (by simpa using hf) (by simp at hl ⊢;omega) (fun x hx=>h1 x (by simp [hx]))
   simp only [storeCells,Sem.run_bind,hst,Result.andThen,ih]
   congr 1
   unfold World.putAt
   simp only [Array.setIfInBounds_setIfInBounds]
   congr 4
   have e1:(L.set (s+i) v).take (s+(i+1))=L.take (s+i)++ [v]:=by
     rw [show s+(i+1)=(s+i)+1 by omega,List.take_add_one,List.take_set,List.set_eq_of_length_le (by simp;omega)]
     simp [hi]
   have e2:(L.set (s+i) v).drop (s+(i+1)+vs.length)=L.drop (s+i+(vs.length+1)):=by
     rw [List.drop_set_of_lt (by omega),show s+(i+1)+vs.length=s+i+(vs.length+1) by omega]
   simp only [zx,e1,e2,List.length_cons,List.append_assoc,List.singleton_append]
end Go.Sym
