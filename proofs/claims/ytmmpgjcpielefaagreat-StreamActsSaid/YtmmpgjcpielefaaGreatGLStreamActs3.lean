/-
  The symbolic engine, part 7: loads and stores. No program in sight; no condition beyond each lemma's own.
-/
import Derived.Test.YtmmpgjcpielefaaGreatGLStreamActs2
import Derived.Laws.Entries
set_option linter.unusedSimpArgs false
set_option linter.unusedVariables false
namespace Go.Sym
theorem zit {α β:Type} (f:α→β) (l:List α) (i:Nat) (m:List α):(zx l i m).map f=zx (l.map f) i (m.map f):=by simp [zx,List.map_take,List.map_drop]
theorem zxu {α:Type} (l:List α) (i:Nat) (x:α) (h:i<l.length):l.set i x=zx l i [x]:=by
  simp only [zx,List.length_singleton]
  rw [List.set_eq_take_append_cons_drop,if_pos h]
  simp
theorem xd {α:Type} (l:List α) (i:Nat) (m:List α) (h:i+m.length≤l.length):(zx l i m).length=l.length:=by simp [zx];omega
theorem zf2 {α:Type} (a p r:List α) (i:Nat) (m:List α) (h:i+m.length≤p.length):zx (a++(p++r)) (a.length+i) m=a++(zx p i m++r):=by
  simp only [zx]
  rw [List.take_length_add_append,List.take_append_of_le_length (by omega),show a.length+i+m.length=a.length+(i+m.length) by omega,List.drop_length_add_append,
   List.drop_append_of_le_length h]
  simp
theorem zuw {α:Type} (a p r m:List α) (h:m.length=p.length):zx (a++(p++r)) a.length m=a++(m++r):=by
  have:=zf2 a p r 0 m (by omega)
  rw [Nat.add_zero] at this
  rw [this]
  simp [zx,h]
theorem zg2 {α:Type} (f:α→Value) (l:List α) (i:Nat) (d:α) (h:i<l.length):(l.map f)[i]?=some (f (l.getD i d)):=by
  simp [h,List.getD_eq_getElem?_getD]
theorem zd4 (n es:Nat) (f:Nat→List At) (h: ∀i,i<n→(f i).length=es) (i c:Nat) (hi:i<n) (hc:c<es):(zat n f)[i*es+c]?=((f i)[c]?).map At.val:=by
  unfold zat
  induction n with
  |zero=>omega
  |succ n ih=>
   rw [List.range_succ,List.flatMap_append]
   have hl:((List.range n).flatMap fun i=>(f i).map At.val).length=n*es:=zah n es f (fun i hi=>h i (by omega))
   rcases Nat.lt_or_ge i n with hlt|hge
   ·have:i*es+c<n*es:=by
      have:(i+1)*es≤n*es:=Nat.mul_le_mul_right _ hlt
      rw [Nat.add_mul] at this;omega
    rw [List.getElem?_append_left (by rw [hl];exact this)]
    exact ih (fun i hi=>h i (by omega)) hlt
   ·obtain rfl:i=n:=by omega
    rw [List.getElem?_append_right (by rw [hl];omega),hl]
    simp
theorem zoo {o:List (Nat×Nat)} {es:Nat} {k:Nat→Nat→Prop} (h:zlp o es k): ∃i c,off o=i*es+c∧k i c:=by
  unfold zlp at h
  split at h
  ·exact ⟨0,0,by simp [off],h⟩
  ·split at h
   ·rename_i i e _ he
    have:=Nat.eq_of_beq_eq_true he
    subst this
    exact ⟨i,0,by simp [off,zc3],h⟩
   ·exact h.elim
  ·split at h
   ·rename_i i e c _ he
    have:=Nat.eq_of_beq_eq_true he
    subst this
    exact ⟨i,c,by simp [off,zc3],h⟩
   ·exact h.elim
  ·exact h.elim
theorem ydo {a:At} {k:SV→Prop} (h:atK a k):k a.sv:=by cases a<;>exact h
theorem yeo {as:List At} {k:List SV→Prop} (h:yal as k):k (as.map At.sv):=by
  induction as generalizing k with
  |nil=>exact h
  |cons a as ih=>
   have:=ydo h
   exact ih (k:=fun vs=>k (a.sv ::vs)) this
theorem yct {α:Type} {l:List α} {n:Nat} {k:List α→Prop} (h:z0n l n k):n≤l.length∧k (l.drop n):=by
  induction n generalizing l with
  |zero=>cases l<;>exact ⟨by simp,h⟩
  |succ n ih=>
   cases l with
   |nil=>exact h.elim
   |cons x xs=>obtain ⟨h1,h2⟩:=ih h;exact ⟨by simp;omega,h2⟩
theorem z7z {α:Type} {l:List α} {n:Nat} {k:List α→Prop} (h:zur l n k):n≤l.length∧k (l.take n):=by
  induction n generalizing l k with
  |zero=>cases l<;>exact ⟨by simp,h⟩
  |succ n ih=>
   cases l with
   |nil=>exact h.elim
   |cons x xs=>obtain ⟨h1,h2⟩:=ih (k:=fun l=>k (x ::l)) h;exact ⟨by simp;omega,h2⟩
theorem yfh {p:Nat→Prop} (as:List At):okL p (as.map At.sv):=by
  induction as with
  |nil=>trivial
  |cons a as ih=>exact ⟨At.sv_ok a,ih⟩
theorem zlx (ρ:Nat→Nat) (as:List At):zw ρ (as.map At.sv)=as.map At.val:=by
  induction as with
  |nil=>rfl
  |cons a as ih=>simp only [List.map_cons,zw,ih,zbi (At.sv_scalar a),←At.val_eq];rfl
section
variable {p:Nat→Prop} {ρ:Nat→Nat}
theorem yap {q:SV} {o:List (Nat×Nat)} {k:SV→Prop} (hq:q.ok p) (h:zpt q o k):
    ∃v:SV,k v∧v.ok p∧v.scalar=true∧(q.cells ρ)[off o]?=some (v.den ρ):=by
  unfold zpt at h
  split at h
  ·obtain ⟨h1,h2⟩:=zq h;exact ⟨_,h2,trivial,rfl,zg2 _ _ _ 0 h1⟩
  ·obtain ⟨h1,h2⟩:=zq h;exact ⟨_,h2,trivial,rfl,zg2 _ _ _ 0 h1⟩
  ·obtain ⟨h1,h2⟩:=zq h;exact ⟨_,h2,trivial,rfl,zg2 _ _ _ 0 h1⟩
  ·obtain ⟨h1,h2⟩:=zq h;exact ⟨_,h2,trivial,rfl,zg2 _ _ _ 0 h1⟩
  ·obtain ⟨h1,h2⟩:=zq h;exact ⟨_,h2,trivial,rfl,zg2 _ _ _ [] h1⟩
  ·rename_i n es f
   obtain ⟨i,c,ho,h⟩:=zoo h
   obtain ⟨h1,h⟩:=zq h
   obtain ⟨a,h2,h⟩:=zdo h
   have hr:=hq i h1
   have hc:c<es:=by have:=(List.getElem?_eq_some_iff.1 h2).1;omega
   refine ⟨a.sv,ydo h,At.sv_ok a,At.sv_scalar a,?_⟩
   rw [ho]
   show (zat n f)[_]?=_
   rw [zd4 n es f hq i c h1 hc,h2,←At.val_eq];rfl
  ·exact h.elim
  ·exact h.elim
  ·rename_i h1 h2 h3 h4 h5 h6 h7 h8
   have hs:q.scalar=true:=by
     cases q<;>first|rfl|(exfalso;first|exact h1 _ _ rfl|exact h2 _ _ rfl|exact h3 _ _ rfl|exact h4 _ _ rfl|exact h5 _ _ rfl|exact h6 _ _ _ rfl|exact h7 _ rfl|exact h8 _ rfl)
   split at h
   ·exact ⟨q,h,hq,hs,by rw [zbi hs];rfl⟩
   ·exact h.elim
theorem zj7 {α:Type} (f:α→Value) (l:List α) (s m:Nat) (h:s+m≤l.length):
    (((l.drop s).take m).map f).length=m∧ ∀i,i<m→(l.map f)[s+i]?=(((l.drop s).take m).map f)[i]?:=by
  refine ⟨by simp;omega,fun i hi=>?_⟩
  simp [hi,List.getElem?_drop]
theorem ydu {q:SV} {o:List (Nat×Nat)} {m:Nat} {k:SV→Prop} (hq:q.ok p) (h:zwk q o m k):
    ∃v:SV,k v∧v.ok p∧v.many=true∧(v.cells ρ).length=m∧ ∀i,i<m→(q.cells ρ)[off o+i]?=(v.cells ρ)[i]?:=by
  unfold zwk at h
  split at h
  ·rename_i l;obtain ⟨h1,h2⟩:=zq h;exact ⟨_,h2,by simp [SV.ok];omega,rfl,zj7 _ l _ _ h1⟩
  ·rename_i l;obtain ⟨h1,h2⟩:=zq h;exact ⟨_,h2,by simp [SV.ok];omega,rfl,zj7 _ l _ _ h1⟩
  ·rename_i l;obtain ⟨h1,h2⟩:=zq h;exact ⟨_,h2,by simp [SV.ok];omega,rfl,zj7 _ l _ _ h1⟩
  ·rename_i l;obtain ⟨h1,h2⟩:=zq h;exact ⟨_,h2,by simp [SV.ok];omega,rfl,zj7 _ l _ _ h1⟩
  ·rename_i l;obtain ⟨h1,h2⟩:=zq h;exact ⟨_,h2,by simp [SV.ok];omega,rfl,zj7 _ l _ _ h1⟩
  ·rename_i n es f
   obtain ⟨i,c,ho,h⟩:=zoo h
   obtain ⟨h1,h⟩:=zq h
   obtain ⟨h2,h⟩:=yct h
   obtain ⟨h3,h⟩:=z7z h
   have h:=yeo h
   have hr:=hq i h1
   have e:(SV.agg ((((f i).drop c).take m).map At.sv)).cells ρ=(((f i).drop c).take m).map At.val:=zlx ρ _
   refine ⟨_,h,yfh _,rfl,by rw [e];simp at h3 ⊢;omega,fun x hx=>?_⟩
   simp at h3
   rw [ho,e]
   show (zat n f)[_]?=_
   rw [show i*es+c+x=i*es+(c+x) by omega,zd4 n es f hq i (c+x) h1 (by omega)]
   simp [hx,List.getElem?_drop]
  ·exact h.elim
def zqo (ti:TyI) (L:List Value) (s:Nat) (ρ:Nat→Nat) (v:SV):Prop:=
  (ti.d.agg=false∧v.scalar=true∧L[s]?=some (v.den ρ))∨
  (ti.d.agg=true∧v.many=true∧(v.cells ρ).length=ti.sz∧ ∀i,i<ti.sz→L[s+i]?=(v.cells ρ)[i]?)
theorem zmv {a r:List SV} {q:SV} {b:Nat} (ha:(zw ρ a).length=b) {i:Nat} {v:Value} (h:(q.cells ρ)[i]?=some v):(zw ρ (a++q ::r))[b+i]?=some v:=by
  rw [ym,←ha,List.getElem?_append_right (by omega),Nat.add_sub_cancel_left]
  simp only [zw]
  have:i<(q.cells ρ).length:=(List.getElem?_eq_some_iff.1 h).1
  rw [List.getElem?_append_left this,h]
theorem zkn {ti:TyI} {ps:List SV} {j b:Nat} {o:List (Nat×Nat)} {k:SV→Prop} (hp:okL p ps) (h:zn1 ti ps j b o k):
    ∃v:SV,k v∧v.ok p∧zqo ti (zw ρ ps) (b+off o) ρ v:=by
  obtain ⟨a,r,he,hb,h'⟩:=ze9 h
  clear h
  have h:=h'
  clear h'
  subst he
  obtain ⟨hoa,hor⟩:=xi.1 hp
  have hla:(zw ρ a).length=b:=by rw [xo ρ a hoa,hb]
  have agg:ti.d.agg=true→(match (generalizing:=false) o with
   | []=>zg5 r ti.sz fun a _=>zjq a k
   |_=>match (generalizing:=false) r with|q ::_=>zwk q o ti.sz k| []=>False)→ ∃v:SV,k v∧v.ok p∧zqo ti (zw ρ (a++r)) (b+off o) ρ v:=by
    intro hag hg
    clear h
    have h:=hg
    clear hg
    split at h
    ·obtain ⟨a2,r2,he2,hs2,h'⟩:=z01 h
     clear h
     have h:=h'
     clear h'
     subst he2
     obtain ⟨ho2,_⟩:=xi.1 hor
     obtain ⟨v,hm,hc,hok,hk⟩:=z1x (p:=p) h
     have hl2:(zw ρ a2).length=ti.sz:=by rw [xo ρ a2 ho2,hs2]
     refine ⟨v,hk,hok ho2,.inr ⟨hag,hm,by rw [hc,hl2],fun i hi=>?_⟩⟩
     rw [hc,ym,ym,show b+off []+i=b+i by simp [off],←hla,List.getElem?_append_right (by omega),Nat.add_sub_cancel_left,
      List.getElem?_append_left (by omega)]
    ·split at h
     ·rename_i q r'
      obtain ⟨v,hk,hok,hm,hl,hv⟩:=ydu (ρ:=ρ) (p:=p) hor.1 h
      refine ⟨v,hk,hok,.inr ⟨hag,hm,hl,fun i hi=>?_⟩⟩
      have hi':i<(v.cells ρ).length:=by omega
      rw [Nat.add_assoc,List.getElem?_eq_getElem hi']
      exact zmv hla (by rw [hv i hi,List.getElem?_eq_getElem hi'])
     ·exact h.elim
  split at h
  ·rename_i hd;exact agg (by rw [hd];rfl) h
  ·rename_i hd;exact agg (by rw [hd];rfl) h
  ·rename_i hd1 hd2
   have hag:ti.d.agg=false:=by
     cases hd:ti.d<;>first|rfl|(exfalso;first|exact hd1 _ _ hd|exact hd2 _ hd)
   split at h
   ·rename_i q r'
    obtain ⟨v,hk,hok,hs,hv⟩:=yap (ρ:=ρ) (p:=p) hor.1 h
    exact ⟨v,hk,hok,.inl ⟨hag,hs,zmv hla hv⟩⟩
   ·exact h.elim
theorem zis {P:Program} {t:TypeId} {ti:TyI} (ht:yt P t ti) (w:World):(isAgg t).run P w= .ok ti.d.agg w:=by
  obtain ⟨_,_,h,_⟩:=ht
  have key: ∀d,P.underlying t=some d→(isAgg t).run P w= .ok (match d with| .struct _| .array _ _=>true|_=>false) w:=by
    intro d hd
    simp only [isAgg,Sem.run_bind,run_underlying hd,Result.andThen_ok]
    cases d<;>rfl
  cases hd:ti.d<;>rw [hd] at h<;>simp only at h
  case ptr=>obtain ⟨e,h⟩:=h;rw [key _ h];rfl
  case struct=>obtain ⟨e,h,_⟩:=h;rw [key _ h];rfl
  case func=>obtain ⟨a,b,c,h⟩:=h;rw [key _ h];rfl
  case iface=>obtain ⟨e,h⟩:=h;rw [key _ h];rfl
  case other=>
    obtain ⟨d,h,hn⟩:=h
    rw [key _ h]
    cases d<;>first|rfl|exact hn.elim
  all_goals (rw [key _ h];rfl)
theorem yp {P:Program} {t:TypeId} {ti:TyI} (ht:yt P t ti) (w:World):(sizeOf t).run P w= .ok ti.sz w:=by
  obtain ⟨⟨info,h1,h2,_⟩,_⟩:=ht
  simp only [sizeOf,typeInfo,Sem.run_bind,run_program,Result.andThen_ok,h1,Sem.run_pure]
  rw [h2]
theorem zfz {P:Program} {t:TypeId} {ti:TyI} (ht:yt P t ti) {w:World} {b s:Nat} {L:List Value} (hc: ∀i,w.cell? ⟨b,i,none⟩=L[i]?) {v:SV}
    (hv:zqo ti L s ρ v):(loadVar t ⟨b,s,none⟩).run P w= .ok (v.den ρ) w:=by
  unfold loadVar
  simp only [Sem.run_bind,zis ht,Result.andThen_ok]
  rcases hv with ⟨ha,hs,he⟩|⟨ha,hm,hl,he⟩
  ·rw [ha]
   simp only [Bool.false_eq_true,if_false]
   simp only [run_load,hc,he]
  ·rw [ha]
   simp only [if_true,Sem.run_bind,yp ht,Result.andThen_ok,Sem.run_pure]
   have:=zak (P:=P) (w:=w) (b:=b) (s:=s) (L:=L) (M:=v.cells ρ) hc (fun i hi=>he i (by omega))
   rw [hl] at this
   rw [this,Result.andThen_ok,zdi hm]
theorem zh5 {P:Program} {t:TypeId} {ti:TyI} (ht:yt P t ti) {w:World} {s:Nat} {L:List Value} {v:SV}
    (hv:zqo ti L s ρ v):(part t L.toArray s).run P w= .ok (v.den ρ) w:=by
  unfold part
  simp only [Sem.run_bind,zis ht,Result.andThen_ok]
  rcases hv with ⟨ha,hs,he⟩|⟨ha,hm,hl,he⟩
  ·rw [ha]
   simp [he]
  ·rw [ha]
   simp only [if_true,Sem.run_bind,yp ht,Result.andThen_ok,Sem.run_pure]
   rw [zdi hm]
   congr 2
   apply Array.ext_getElem?
   intro i
   rw [Array.getElem?_extract]
   rcases Nat.lt_or_ge i ti.sz with hi|hi
   ·have h1:=he i hi
    have h2:i<(v.cells ρ).length:=by omega
    rw [List.getElem?_eq_getElem h2] at h1
    have h3:s+i<L.length:=(List.getElem?_eq_some_iff.1 h1).1
    have h4:i<min (s+ti.sz) L.toArray.size-s:=by simp;omega
    rw [if_pos h4]
    simp [h1,List.getElem?_eq_getElem h2]
   ·have h4: ¬i<min (s+ti.sz) L.toArray.size-s:=by simp;omega
    rw [if_neg h4]
    simp;omega
theorem z2o {v:SV} (h:v.scalar=true):v.size=1:=by cases v<;>first|rfl|(simp [SV.scalar] at h)
theorem ybt {vs:List SV} {k:List UInt64→Prop} (h:zvi vs k): ∃l,k l∧zw ρ vs=c64 l:=by
  induction vs generalizing k with
  |nil=>exact ⟨[],h,rfl⟩
  |cons v vs ih=>
   unfold zvi at h
   split at h
   ·rename_i hn;cases hn
   ·rename_i _ x r hn
    cases hn
    obtain ⟨l,h1,h2⟩:=ih h
    exact ⟨x ::l,h1,by simp only [zw,h2];rfl⟩
   ·exact h.elim
theorem z12 {v:SV} {k:At→Prop} (h:zq4 v k): ∃a,k a∧v=a.sv:=by
  unfold zq4 at h
  split at h
  ·exact ⟨_,h,rfl⟩
  ·exact ⟨_,h,rfl⟩
  ·exact ⟨_,h,rfl⟩
  ·exact ⟨_,h,rfl⟩
  ·exact ⟨_,h,rfl⟩
  ·exact ⟨_,h,rfl⟩
  ·exact ⟨_,h,rfl⟩
  ·exact h.elim
theorem zjk {vs:List SV} {k:List At→Prop} (h:zls vs k): ∃as,k as∧vs=as.map At.sv:=by
  induction vs generalizing k with
  |nil=>exact ⟨[],h,rfl⟩
  |cons v vs ih=>
   obtain ⟨a,h1,h2⟩:=z12 h
   obtain ⟨as,h3,h4⟩:=ih (k:=fun as=>k (a ::as)) h1
   exact ⟨a ::as,h3,by rw [h2,h4];rfl⟩
def One (l:List Value):Prop:= ∀v∈l,v.oneCell'=true
theorem One.map {α:Type} (f:α→Value) (h: ∀x,(f x).oneCell'=true) (l:List α):One (l.map f):=by
  intro v hv
  obtain ⟨x,_,rfl⟩:=List.mem_map.1 hv
  exact h x
theorem zub (a:At):a.val.oneCell'=true:=by cases a<;>rfl
theorem zo4 {v:SV} (h:v.scalar=true):(v.den ρ).oneCell'=true:=by cases v<;>first|rfl|(simp [SV.scalar] at h)
theorem One.append {a b:List Value} (ha:One a) (hb:One b):One (a++b):=by
  intro v hv
  rcases List.mem_append.1 hv with h|h
  ·exact ha v h
  ·exact hb v h
theorem z3n {v:SV} (h:v.plain=true):One (v.cells ρ):=by
  have scal:v.scalar=true→One (v.cells ρ):=fun hs=>by
    rw [zbi hs];intro x hx;rw [List.mem_singleton.1 hx];exact zo4 hs
  cases v with
  |agg ps=>simp [SV.plain] at h
  |tup vs=>simp [SV.plain] at h
  |arr8 n l=>exact One.map _ (fun _=>rfl) l
  |arr32 n l=>exact One.map _ (fun _=>rfl) l
  |arr64 n l=>exact One.map _ (fun _=>rfl) l
  |arri n l=>exact One.map _ (fun _=>rfl) l
  |arrs n l=>exact One.map _ (fun _=>rfl) l
  |tab n es f=>
   intro x hx
   simp only [SV.cells,zat,List.mem_flatMap,List.mem_map] at hx
   obtain ⟨_,_,a,_,rfl⟩:=hx
   exact zub a
  |_=>exact scal rfl
theorem zzx {vs:List SV} (h:zin vs=true):One (zw ρ vs):=by
  induction vs with
  |nil=>intro v hv;cases hv
  |cons v vs ih=>
   simp only [zin] at h
   split at h
   ·rename_i hv;exact (z3n hv).append (ih h)
   ·cases h
def zj5 (L:List Value) (s:Nat) (M L':List Value):Prop:=L'=zx L s M∧s+M.length≤L.length∧One M
theorem zvj (n es:Nat) (f:Nat→List At) (h: ∀i,i<n→(f i).length=es) (i:Nat) (hi:i<n) (r:List At) (hr:r.length=es):
    zat n (zhc f i r)=zx (zat n f) (i*es) (r.map At.val):=by
  have h': ∀x,x<n→(zhc f i r x).length=es:=fun x hx=>by unfold zhc;split;exact hr;exact h x hx
  have hb:i*es+es≤n*es:=by have:=Nat.mul_le_mul_right es hi;rw [Nat.succ_mul] at this;exact this
  apply List.ext_getElem?
  intro x
  by_cases hx:x<n*es
  ·have hes:0<es:=by
     rcases Nat.eq_zero_or_pos es with h0|h0
     ·subst h0;simp at hx
     ·exact h0
   have e:x=x/ es*es+x%es:=by rw [Nat.mul_comm];exact (Nat.div_add_mod x es).symm
   have hq:x/ es<n:=Nat.div_lt_of_lt_mul (by rwa [Nat.mul_comm] at hx)
   have hm:x%es<es:=Nat.mod_lt _ hes
   have h1:(zat n (zhc f i r))[x]?=((zhc f i r (x/ es))[x%es]?).map At.val:=by
     conv=>lhs;rw [e]
     exact zd4 n es _ h' _ _ hq hm
   have h2:(zat n f)[x]?=((f (x/ es))[x%es]?).map At.val:=by
     conv=>lhs;rw [e]
     exact zd4 n es _ h _ _ hq hm
   have hl:(zat n f).length=n*es:=zah n es f h
   rw [h1]
   simp only [zx,List.length_map,hr]
   by_cases hc:x/ es=i
   ·have e2:x=i*es+x%es:=by rw [←hc];exact e
    simp only [zhc,if_pos hc]
    rw [List.append_assoc,List.getElem?_append_right (by rw [List.length_take];omega),List.length_take,hl,Nat.min_eq_left (by omega)]
    rw [List.getElem?_append_left (by simp;omega),show x-i*es=x%es by omega]
    simp
   ·simp only [zhc,if_neg hc]
    rw [←h2]
    rcases Nat.lt_or_gt_of_ne hc with hlt|hgt
    ·have:x<i*es:=by
       have:=Nat.mul_le_mul_right es hlt
       rw [Nat.succ_mul] at this;omega
     rw [List.append_assoc,List.getElem?_append_left (by rw [List.length_take];omega),List.getElem?_take,if_pos this]
    ·have:i*es+es≤x:=by
       have:=Nat.mul_le_mul_right es hgt
       rw [Nat.succ_mul] at this;omega
     rw [List.getElem?_append_right (by simp;omega),List.getElem?_drop]
     congr 1
     simp;omega
  ·have hl:(zat n f).length=n*es:=zah n es f h
   have hl':(zat n (zhc f i r)).length=n*es:=zah n es _ h'
   rw [List.getElem?_eq_none (by omega),List.getElem?_eq_none]
   rw [xd _ _ _ (by simp;omega)];omega
theorem ze4 {α:Type} (f:α→Value) (hf: ∀x,(f x).oneCell'=true) (l:List α) (i:Nat) (x:α) (h:i<l.length):zj5 (l.map f) i [f x] ((l.set i x).map f):=
  ⟨by rw [zxu l i x h,zit];rfl,by simp;omega,fun v hv=>by rw [List.mem_singleton.1 hv];exact hf x⟩
theorem zcu {α:Type} (f:α→Value) (hf: ∀x,(f x).oneCell'=true) (l:List α) (i:Nat) (m:List α) (h:i+m.length≤l.length):zj5 (l.map f) i (m.map f) ((zx l i m).map f):=
  ⟨zit f l i m,by simpa using h,One.map f hf m⟩
theorem z9t {q v:SV} {o:List (Nat×Nat)} {k:SV→Prop} (hq:q.ok p) (hv:v.ok p) (h:zfo q o v k):
    ∃q':SV,k q'∧q'.ok p∧zj5 (q.cells ρ) (off o) (v.cells ρ) (q'.cells ρ):=by
  unfold zfo at h
  split at h
  ·rename_i n l
   split at h
   ·rename_i x;obtain ⟨h1,h2⟩:=zq h;exact ⟨_,h2,by simpa [SV.ok] using hq,ze4 _ (fun _=>rfl) l _ x h1⟩
   ·rename_i m x;obtain ⟨h1,h2⟩:=zq h
    have hm:x.length=m:=hv
    exact ⟨_,h2,by simp only [SV.ok] at hq ⊢;rw [xd _ _ _ (by omega)];exact hq,zcu _ (fun _=>rfl) l _ x (by omega)⟩
   ·exact h.elim
  ·rename_i n l
   split at h
   ·rename_i x;obtain ⟨h1,h2⟩:=zq h;exact ⟨_,h2,by simpa [SV.ok] using hq,ze4 _ (fun _=>rfl) l _ x h1⟩
   ·rename_i m x;obtain ⟨h1,h2⟩:=zq h
    have hm:x.length=m:=hv
    exact ⟨_,h2,by simp only [SV.ok] at hq ⊢;rw [xd _ _ _ (by omega)];exact hq,zcu _ (fun _=>rfl) l _ x (by omega)⟩
   ·exact h.elim
  ·rename_i n l
   split at h
   ·rename_i x;obtain ⟨h1,h2⟩:=zq h;exact ⟨_,h2,by simpa [SV.ok] using hq,ze4 _ (fun _=>rfl) l _ x h1⟩
   ·rename_i m x;obtain ⟨h1,h2⟩:=zq h
    have hm:x.length=m:=hv
    exact ⟨_,h2,by simp only [SV.ok] at hq ⊢;rw [xd _ _ _ (by omega)];exact hq,zcu _ (fun _=>rfl) l _ x (by omega)⟩
   ·rename_i vs
    obtain ⟨x,h,hc⟩:=ybt (ρ:=ρ) h
    obtain ⟨h1,h2⟩:=zq h
    refine ⟨_,h2,by simp only [SV.ok] at hq ⊢;rw [xd _ _ _ (by omega)];exact hq,?_⟩
    have hc':(SV.agg vs).cells ρ=c64 x:=hc
    rw [hc']
    exact zcu _ (fun _=>rfl) l _ x (by omega)
   ·exact h.elim
  ·rename_i n l
   split at h
   ·rename_i x;obtain ⟨h1,h2⟩:=zq h;exact ⟨_,h2,by simpa [SV.ok] using hq,ze4 _ (fun _=>rfl) l _ x h1⟩
   ·rename_i m x;obtain ⟨h1,h2⟩:=zq h
    have hm:x.length=m:=hv
    exact ⟨_,h2,by simp only [SV.ok] at hq ⊢;rw [xd _ _ _ (by omega)];exact hq,zcu _ (fun _=>rfl) l _ x (by omega)⟩
   ·exact h.elim
  ·rename_i n l
   split at h
   ·rename_i x;obtain ⟨h1,h2⟩:=zq h;exact ⟨_,h2,by simpa [SV.ok] using hq,ze4 _ (fun _=>rfl) l _ x h1⟩
   ·exact h.elim
  ·rename_i n es f
   have hq': ∀i,i<n→(f i).length=es:=hq
   split at h
   ·rename_i vs
    obtain ⟨as,h',hvs⟩:=zjk h
    clear h
    have h:=h'
    clear h'
    subst hvs
    obtain ⟨i,c,ho,h⟩:=zoo h
    split at h
    ·obtain ⟨⟨h1,h2⟩,h⟩:=zq h
     have hb:i*es+es≤n*es:=by have:=Nat.mul_le_mul_right es h1;rw [Nat.succ_mul] at this;exact this
     refine ⟨_,h,fun x hx=>by unfold zhc;split;exact h2;exact hq' x hx,?_⟩
     have e:(SV.agg (as.map At.sv)).cells ρ=as.map At.val:=zlx ρ as
     rw [e,ho]
     exact ⟨zvj n es f hq' i h1 as h2,by show _≤(zat n f).length;rw [zah n es f hq'];simp;omega,One.map _ zub as⟩
    ·exact h.elim
   ·obtain ⟨a,h',hva⟩:=z12 h
    clear h
    have h:=h'
    clear h'
    subst hva
    obtain ⟨i,c,ho,h⟩:=zoo h
    obtain ⟨h1,h⟩:=zq h
    obtain ⟨h2,h⟩:=zes h
    have hr:=hq' i h1
    have hb:i*es+es≤n*es:=by have:=Nat.mul_le_mul_right es h1;rw [Nat.succ_mul] at this;exact this
    refine ⟨_,h,fun x hx=>by unfold zhc;split;simp [hr];exact hq' x hx,?_⟩
    have e:(a.sv).cells ρ= [a.val]:=by rw [zbi (At.sv_scalar a),←At.val_eq]
    rw [e,ho]
    refine ⟨?_,by show _≤(zat n f).length;rw [zah n es f hq'];simp;omega,fun v hv=>by rw [List.mem_singleton.1 hv];exact zub a⟩
    show zat n (zhc f i ((f i).set c a))=_
    rw [zvj n es f hq' i h1 _ (by simp [hr])]
    have hl:(zat n f).length=n*es:=zah n es f hq'
    apply List.ext_getElem?
    intro x
    have hw: ∀c',c'<es→(zat n f)[i*es+c']?=((f i)[c']?).map At.val:=fun c' hc'=>zd4 n es f hq' i c' h1 hc'
    simp only [zx,List.length_map,List.length_set,hr,List.length_singleton,SV.cells]
    rcases Nat.lt_or_ge x (i*es) with hx|hx
    ·rw [List.append_assoc,List.append_assoc,List.getElem?_append_left (by rw [List.length_take];omega),List.getElem?_append_left (by rw [List.length_take];omega),
     List.getElem?_take,List.getElem?_take,if_pos hx,if_pos (by omega)]
    ·rcases Nat.lt_or_ge x (i*es+es) with hx2|hx2
     ·obtain ⟨y,rfl⟩: ∃y,x=i*es+y:=⟨x-i*es,by omega⟩
      rw [List.append_assoc,List.getElem?_append_right (by rw [List.length_take];omega),List.length_take,hl,Nat.min_eq_left (by omega),
       List.getElem?_append_left (by simp [hr];omega),show i*es+y-i*es=y by omega]
      rcases Nat.lt_trichotomy y c with hy|rfl|hy
      ·rw [List.append_assoc,List.getElem?_append_left (by rw [List.length_take];omega),List.getElem?_take,if_pos (by omega),hw y (by omega)]
       simp [List.getElem?_set_ne (show c≠y by omega)]
      ·rw [List.append_assoc,List.getElem?_append_right (by rw [List.length_take];omega),List.length_take,hl,Nat.min_eq_left (by omega)]
       simp [h2]
      ·rw [List.getElem?_append_right (by simp;omega),List.getElem?_drop]
       have:i*es+c+1+(i*es+y-(List.take (i*es+c) (zat n f)++ [a.val]).length)=i*es+y:=by simp;omega
       rw [this,hw y (by omega)]
       simp [List.getElem?_set_ne (show c≠y by omega)]
     ·rw [List.getElem?_append_right (by simp [hr];omega),List.getElem?_append_right (by simp;omega),List.getElem?_drop,List.getElem?_drop]
      congr 1
      simp [hr];omega
  ·exact h.elim
  ·exact h.elim
  ·rename_i h1 h2 h3 h4 h5 h6 h7 h8
   have hqs:q.scalar=true:=by
     cases q<;>first|rfl|(exfalso;first|exact h1 _ _ rfl|exact h2 _ _ rfl|exact h3 _ _ rfl|exact h4 _ _ rfl|exact h5 _ _ rfl|exact h6 _ _ _ rfl|exact h7 _ rfl|exact h8 _ rfl)
   split at h
   ·split at h
    ·rename_i hs
     refine ⟨v,h,hv,?_⟩
     rw [zbi hqs,zbi hs]
     exact ⟨by simp [zx,off],by simp [off],fun x hx=>by rw [List.mem_singleton.1 hx];exact zo4 hs⟩
    ·exact h.elim
   ·exact h.elim
theorem zkh {ti:TyI} {ps:List SV} {j b:Nat} {o:List (Nat×Nat)} {v:SV} {k:List SV→Prop} (hp:okL p ps) (hv:v.ok p) (h:zfv ti ps j b o v k):
    ∃ps',k ps'∧okL p ps'∧(v.cells ρ).length=ti.sz∧zj5 (zw ρ ps) (b+off o) (v.cells ρ) (zw ρ ps'):=by
  obtain ⟨a,r,he,hb,h'⟩:=ze9 h
  clear h
  have h:=h'
  clear h'
  subst he
  obtain ⟨hoa,hor⟩:=xi.1 hp
  have hla:(zw ρ a).length=b:=by rw [xo ρ a hoa,hb]
  have one: ∀(q:SV) (r':List SV),r=q ::r'→(zfo q o v fun p'=>zei a (p' ::r') k)→ ∃ps',k ps'∧okL p ps'∧zj5 (zw ρ (a++r)) (b+off o) (v.cells ρ) (zw ρ ps'):=by
    intro q r' he hw
    clear h
    subst he
    obtain ⟨q',hw,hq',hw1,hw2,hw3⟩:=z9t (ρ:=ρ) (p:=p) hor.1 hv hw
    refine ⟨_,zfl hw,xi.2 ⟨hoa,hq',hor.2⟩,?_,?_,hw3⟩
    ·rw [ym,ym,←hla]
     simp only [zw]
     rw [zf2 _ _ _ _ _ hw2,hw1]
    ·rw [ym];simp only [zw,List.length_append];omega
  split at h
  ·split at h
   ·rename_i hm
    obtain ⟨a2,r2,he2,hs2,h'⟩:=z01 h
    clear h
    have h:=h'
    clear h'
    subst he2
    obtain ⟨ho2,ho3⟩:=xi.1 hor
    obtain ⟨fs,h,hf1,hf2,hf3⟩:=zfs (p:=p) ρ h
    split at h
    ·rename_i hz
     split at h
     ·rename_i hpl
      have hz:=Nat.eq_of_beq_eq_true hz
      have hl2:(zw ρ a2).length=ti.sz:=by rw [xo ρ a2 ho2,hs2]
      have hlf:(zw ρ fs).length=ti.sz:=by rw [xo ρ fs (hf3 hv),hz]
      refine ⟨_,zfl (zfl h),xi.2 ⟨hoa,xi.2 ⟨hf3 hv,ho3⟩⟩,by rw [←hf1,hlf],?_,?_,?_⟩
      ·rw [ym,ym,ym,ym,show b+off []=b by simp [off],←hla,←hf1,zuw _ _ _ _ (by omega)]
      ·rw [←hf1,ym,ym];simp [off];omega
      ·rw [←hf1];exact zzx hpl
     ·exact h.elim
    ·exact h.elim
   ·split at h
    ·rename_i hm _ hz
     split at h
     ·rename_i q r'
      obtain ⟨ps',h1,h2,h3⟩:=one q r' rfl h
      refine ⟨ps',h1,h2,?_,h3⟩
      have hz:=Nat.eq_of_beq_eq_true hz
      have hvs:v.scalar=true:=by
        cases v<;>first|rfl|(exfalso;revert hm;simp [SV.many];done)|skip
        rename_i vs
        have:=h3.2.2
        simp only [SV.cells] at this
        have:=this _ (List.mem_singleton.2 rfl)
        simp [Value.oneCell'] at this
      rw [zbi hvs];simp [hz]
     ·exact h.elim
    ·exact h.elim
  ·split at h
   ·rename_i hz
    split at h
    ·rename_i q r'
     obtain ⟨ps',h1,h2,h3⟩:=one q r' rfl h
     exact ⟨ps',h1,h2,by rw [SV.cells_length ρ v hv];exact Nat.eq_of_beq_eq_true hz,h3⟩
    ·exact h.elim
   ·exact h.elim
end
end Go.Sym
