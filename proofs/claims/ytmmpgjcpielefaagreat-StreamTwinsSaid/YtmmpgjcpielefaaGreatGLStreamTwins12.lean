/-
  Contracts of functions of the program, each said of symbolic values, and plain laws; no condition beyond each statement's own.
-/
import Derived.Test.YtmmpgjcpielefaaGreatGLStreamTwins11
set_option linter.unusedSimpArgs false
set_option linter.unusedVariables false
namespace Go.Sym
def mask:List Nat→List Blk→List Blk
  | [],hp=>hp
  |m ::M,hp=>mask M (hp.set m .dead)
theorem ya: ∀(M:List Nat) (hp:List Blk),(mask M hp).length=hp.length
  | [],_=>rfl
  |m ::M,hp=>by simp [mask,ya M]
theorem z1r {hp:List Blk} {m k:Nat} {el:TypeId} {ps:List SV}:(hp.set m .dead)[k]?=some (.mk el ps)↔k≠m∧hp[k]?=some (.mk el ps):=by
  constructor
  ·intro h
   by_cases e:m=k
   ·subst e
    rw [List.getElem?_set] at h
    split at h
    ·split at h<;>cases h
    ·rename_i hne;exact absurd rfl hne
   ·rw [List.getElem?_set_ne e] at h;exact ⟨fun x=>e x.symm,h⟩
  ·rintro ⟨h1,h2⟩
   rw [List.getElem?_set_ne (fun e=>h1 e.symm)];exact h2
theorem y5 {k:Nat} {el:TypeId} {ps:List SV}: ∀{M:List Nat} {hp:List Blk},(mask M hp)[k]?=some (.mk el ps)↔k∉M∧hp[k]?=some (.mk el ps)
  | [],hp=>by simp [mask]
  |m ::M,hp=>by
   rw [mask,y5,z1r]
   simp only [List.mem_cons,not_or]
   constructor
   ·rintro ⟨h1,h2,h3⟩;exact ⟨⟨h2,h1⟩,h3⟩
   ·rintro ⟨⟨h1,h2⟩,h3⟩;exact ⟨h2,h1,h3⟩
theorem zkk: ∀{M:List Nat} {hp:List Blk} {k:List Blk→Prop},zj4 M hp k→k (mask M hp)
  | [],_,_,h=>h
  |m ::M,hp,k,h=>by
   exact zkk (M:=M) (zdf h).2
def zci (hp:List Blk):List Nat→List Blk→List Blk
  | [],hp'=>hp'
  |m ::M,hp'=>zci hp M (match hp[m]? with|some b=>hp'.set m b|none=>hp')
theorem zku {hp:List Blk}: ∀{M:List Nat} {hp':List Blk} {k:List Blk→Prop},zes hp M hp' k→k (zci hp M hp')∧ ∀m∈M,m<hp.length∧m<hp'.length
  | [],_,_,h=>⟨h,by simp⟩
  |m ::M,hp',k,h=>by
   obtain ⟨b,h1,h2⟩:=zch h
   obtain ⟨h3,h4⟩:=zdf h2
   obtain ⟨h5,h6⟩:=zku h4
   refine ⟨by rw [zci,h1];exact h5,fun x hx=>?_⟩
   rcases List.mem_cons.1 hx with rfl|hx
   ·exact ⟨(List.getElem?_eq_some_iff.1 h1).1,h3⟩
   ·have:=h6 x hx;simpa using this
theorem zg7 {hp:List Blk}: ∀{M:List Nat} {hp':List Blk},(zci hp M hp').length=hp'.length
  | [],_=>rfl
  |m ::M,hp'=>by
   rw [zci,zg7]
   split<;>simp
theorem zlx {hp:List Blk} {k:Nat}: ∀{M:List Nat} {hp':List Blk},(∀m∈M,m<hp.length∧m<hp'.length)→(zci hp M hp')[k]?=if k∈M then hp[k]? else hp'[k]?
  | [],_,_=>by simp [zci]
  |m ::M,hp',h=>by
   obtain ⟨h1,h2⟩:=h m (by simp)
   rw [zci,List.getElem?_eq_getElem h1]
   dsimp only
   rw [zlx (fun x hx=>by have:=h x (by simp [hx]);simpa using this)]
   by_cases hk:k∈M
   ·simp [hk]
   ·by_cases e:k=m
    ·subst e;simp [hk,h2,List.getElem?_eq_getElem h1]
    ·rw [List.getElem?_set_ne (fun x=>e x.symm)];simp [hk,e]
theorem zo8 {M:List Nat}: ∀{l:List Nat},zso M l=true→ ∀x∈l,x∉M
  | [],_=>by simp
  |y ::ys,h=>by
   simp only [zso] at h
   split at h
   ·cases h
   ·rename_i he
    intro x hx
    rcases List.mem_cons.1 hx with rfl|hx
    ·exact fun hm=>by rw [x9.2 hm] at he;cases he
    ·exact zo8 h x hx
theorem SV.ok_of_ks {p q:Nat→Prop}: ∀v:SV,v.ok p→(∀x∈v.ks,q x)→v.ok q:=by
  intro v
  refine SV.rec (motive_1:=fun v=>v.ok p→(∀x∈v.ks,q x)→v.ok q) (motive_2:=fun vs=>okL p vs→(∀x∈ksL vs,q x)→okL q vs)
    ?_ ?_ ?_ ?_ ?_ ?_ ?_ ?_ ?_ ?_ ?_ ?_ ?_ ?_ ?_ ?_ ?_ ?_ ?_ ?_ ?_ ?_ ?_ ?_ ?_ ?_ ?_ v
  case refine_26=>intro _ _;trivial
  case refine_27=>
    intro v vs ihv ihs h hx
    exact ⟨ihv h.1 (fun x h=>hx x (by simp [ksL,h])),ihs h.2 (fun x h=>hx x (by simp [ksL,h]))⟩
  all_goals first
    |(intros;rename_i h hx;first|exact h|exact hx _ (by simp [SV.ks])|trivial)
    |(intro ps ih h hx;exact ih h (by simpa [SV.ks] using hx))
    |(intro a ps ih h hx;exact ih h (by simpa [SV.ks] using hx))
theorem zub {p q:Nat→Prop} {vs:List SV} (h:okL p vs) (hx: ∀x∈ksL vs,q x):okL q vs:=by
  have:=SV.ok_of_ks (p:=p) (q:=q) (.agg vs) h (by simpa [SV.ks] using hx)
  exact this
theorem SV.ok_and {p q r:Nat→Prop} (hr: ∀x,p x→q x→r x): ∀v:SV,v.ok p→v.ok q→v.ok r:=by
  intro v
  refine SV.rec (motive_1:=fun v=>v.ok p→v.ok q→v.ok r) (motive_2:=fun vs=>okL p vs→okL q vs→okL r vs)
    ?_ ?_ ?_ ?_ ?_ ?_ ?_ ?_ ?_ ?_ ?_ ?_ ?_ ?_ ?_ ?_ ?_ ?_ ?_ ?_ ?_ ?_ ?_ ?_ ?_ ?_ ?_ v
  case refine_26=>intro _ _;trivial
  case refine_27=>
    intro v vs ihv ihs h h'
    exact ⟨ihv h.1 h'.1,ihs h.2 h'.2⟩
  all_goals first
    |(intros;rename_i h h';first|exact h|exact hr _ h h'|trivial)
    |(intro ps ih h h';exact ih h h')
    |(intro a ps ih h h';exact ih h h')
theorem z5a {p q r:Nat→Prop} (hr: ∀x,p x→q x→r x) {vs:List SV} (h:okL p vs) (h':okL q vs):okL r vs:=SV.ok_and hr (.agg vs) h h'
theorem zkq {q:Nat→Prop} {M:List Nat} {v:SV} {p:Prop} (hv:v.ok q) (h:zdy M v p):v.ok (· ∉M)∧p:=by
  unfold zdy at h
  split at h
  ·exact ⟨SV.ok_mono (fun _ _=>by simp) v hv,h⟩
  ·split at h
   ·rename_i e
    exact ⟨SV.ok_of_ks v hv (zo8 e),h⟩
   ·exact h.elim
theorem zib {M:List Nat} {p:Prop}: ∀{hp:List Blk},zcz M hp p→p∧ ∀(k:Nat) (el:TypeId) (ps:List SV) (q:Nat→Prop),hp[k]?=some (.mk el ps)→okL q ps→okL (· ∉M) ps
  | [],h=>⟨h,fun k el ps q hk _=>by simp at hk⟩
  |b ::bs,h=>by
   unfold zcz at h
   split at h
   ·exact ⟨h,fun k el ps q hk ho=>yq (fun _ _=>by simp) _ ho⟩
   ·split at h
    ·obtain ⟨h1,h2⟩:=zib h
     refine ⟨h1,fun k el ps q hk ho=>?_⟩
     cases k with
     |zero=>simp at hk
     |succ k=>exact h2 k el ps q (by simpa using hk) ho
    ·split at h
     ·rename_i el' qs e
      obtain ⟨h1,h2⟩:=zib h
      refine ⟨h1,fun k el ps q hk ho=>?_⟩
      cases k with
      |zero=>simp at hk;obtain ⟨rfl,rfl⟩:=hk;exact zub ho (zo8 e)
      |succ k=>exact h2 k el ps q (by simpa using hk) ho
     ·exact h.elim
theorem zgu {M:List Nat} {p q:Prop}: ∀{hp:List Blk},zcz M hp p→(p→q)→zcz M hp q
  | [],h,f=>f h
  |b ::bs,h,f=>by
   unfold zcz at h ⊢
   split
   ·exact f h
   ·split
    ·exact zgu h f
    ·rename_i el qs
     dsimp only at h
     split at h
     ·exact zgu h f
     ·exact h.elim
theorem zjm {hp:List Blk}: ∀{M:List Nat} {hp':List Blk} {k k':List Blk→Prop},zes hp M hp' k→(∀l,k l→k' l)→zes hp M hp' k'
  | [],_,_,_,h,f=>f _ h
  |m ::M,hp',k,k',h,f=>by
   have nth: ∀{l:List Blk} {i:Nat} {g g':Blk→Prop},zdi l i g→(∀b,g b→g' b)→zdi l i g':=by
     intro l
     induction l with
     |nil=>intro i g g' h _;exact h
     |cons x xs ih=>
      intro i g g' h hg
      cases i with
      |zero=>exact hg _ h
      |succ i=>exact ih (i:=i) h hg
   have set: ∀{l:List Blk} {i:Nat} {b:Blk} {g g':List Blk→Prop},zii l i b g→(∀l,g l→g' l)→zii l i b g':=by
     intro l
     induction l with
     |nil=>intro i b g g' h _;exact h
     |cons x xs ih=>
      intro i b g g' h hg
      cases i with
      |zero=>exact hg _ h
      |succ i=>exact ih (g:=fun l=>g (x ::l)) (g':=fun l=>g' (x ::l)) h (fun l hl=>hg _ hl)
   exact nth (i:=m) h fun b hb=>set hb fun l hl=>zjm (M:=M) hl f
section
variable {ρ:Nat→Nat} {hp:List Blk} {w:World}
theorem HpRel.sub (h:HpRel ρ hp w) {hp':List Blk} (hs: ∀(k:Nat) el ps,hp'[k]?=some (Blk.mk el ps)→hp[k]?=some (.mk el ps)∧okL (· <hp'.length) ps):HpRel ρ hp' w:=
  ⟨fun k el ps hk=>⟨(hs k el ps hk).2,(h.mem k el ps (hs k el ps hk).1).2⟩,fun k k' el ps el' ps' h1 h2 he=>h.inj k k' _ _ _ _ (hs k el ps h1).1 (hs k' el' ps' h2).1 he⟩
theorem HpRel.mask (h:HpRel ρ hp w) (M:List Nat):HpRel ρ (mask M hp) w:=
  h.sub fun k el ps hk=>by
    rw [y5] at hk
    exact ⟨hk.2,by rw [ya];exact (h.mem k el ps hk.2).1⟩
variable {ρ0:Nat→Nat} {hp0:List Blk} {w0:World}
theorem Step.grow (h:Step ρ0 hp0 w0 ρ hp w):Step ρ0 hp0 w0 ρ (hp++ [.dead]) w:=by
  have old: ∀(k:Nat) el ps,(hp++ [Blk.dead])[k]?=some (Blk.mk el ps)→hp[k]?=some (.mk el ps):=fun k el ps hk=>by
    rcases Nat.lt_trichotomy k hp.length with hl|rfl|hl
    ·rwa [List.getElem?_append_left hl] at hk
    ·simp at hk
    ·rw [List.getElem?_eq_none (by simp;omega)] at hk;cases hk
  refine ⟨h.rel.sub fun k el ps hk=>⟨old k el ps hk,?_⟩,h.same,by have:=h.le;simp;omega,h.ext,?_⟩
  ·exact yq (fun x hx=>by simp;omega) _ (h.rel.mem k el ps (old k el ps hk)).1
  ·rintro b ⟨k,el,ps,hk,rfl⟩
   exact h.foot _ ⟨k,el,ps,old k el ps hk,rfl⟩
def upd (ρ:Nat→Nat) (n b:Nat):Nat→Nat:=fun k=>if k=n then b else ρ k
theorem Step.place (h:Step ρ0 hp0 w0 ρ hp w) {b:Nat} (hb:hp0.length≤b) (hbl:b<hp.length) (hd: ∀el ps,hp[b]?≠some (.mk el ps)) {el el0:TypeId} {ps:List SV} (hps:okL (· <hp.length) ps) (hpb:okL (· ≠b) ps)
    (hav: ∀(k:Nat) el ps,hp[k]?=some (Blk.mk el ps)→okL (· ≠b) ps) {hp':List Blk} (hl:hp'.length=hp.length)
    (hg: ∀(k:Nat) el' qs,hp'[k]?=some (Blk.mk el' qs)→k≠b∧hp[k]?=some (.mk el' qs)∨k=b∧el'=el∧qs=ps):
    Step ρ0 hp0 w0 (upd ρ b w.heap.size) hp' (w.alloc (.cells (zq ρ ps).toArray el0)):=by
  have hc: ∀qs:List SV,okL (· ≠b) qs→zq (upd ρ b w.heap.size) qs=zq ρ qs:=fun qs hq=>
    xf (p:=(· ≠b)) (fun k hk=>by simp [upd,hk]) qs hq
  have hne: ∀k,k≠b→upd ρ b w.heap.size k=ρ k:=fun k hk=>by simp [upd,hk]
  have hself:upd ρ b w.heap.size b=w.heap.size:=by simp [upd]
  refine ⟨⟨?_,?_⟩,fun k hk=>by rw [hne k (by omega)];exact h.same k hk,by rw [hl];exact h.le,⟨?_,?_,h.ext.os,h.ext.out,h.ext.tape⟩,?_⟩
  ·intro k el' qs hk
   rw [hl]
   rcases hg k el' qs hk with ⟨hkb,hk'⟩|⟨rfl,rfl,rfl⟩
   ·obtain ⟨h1,el2,fz,h2,h3⟩:=h.rel.mem k el' qs hk'
    refine ⟨h1,el2,fz,?_,?_⟩
    ·rw [hne k hkb,hc _ (hav k el' qs hk')]
     simp only [World.alloc]
     rw [Array.getElem?_push,if_neg (Nat.ne_of_lt (h.rel.lt hk')),h2]
    ·rw [hc _ (hav k el' qs hk')];exact h3
   ·refine ⟨hps,el0,(0,0),?_,.inl (Nat.le_refl _)⟩
    rw [hself,hc _ hpb]
    show (w.heap.push _)[w.heap.size]?=_
    simp
  ·intro k k' el1 ps1 el2 ps2 h1 h2 he
   rcases hg k el1 ps1 h1 with ⟨hk,hk'⟩|⟨rfl,_,_⟩<;>rcases hg k' el2 ps2 h2 with ⟨hj,hj'⟩|⟨rfl,_,_⟩
   ·rw [hne k hk,hne k' hj] at he;exact h.rel.inj k k' _ _ _ _ hk' hj' he
   ·rw [hne k hk,hself] at he;exact absurd he (Nat.ne_of_lt (h.rel.lt hk'))
   ·rw [hne k' hj,hself] at he;exact absurd he.symm (Nat.ne_of_lt (h.rel.lt hj'))
   ·rfl
  ·show w0.heap.size≤(w.heap.push _).size
   rw [Array.size_push];exact Nat.le_succ_of_le h.ext.size
  ·intro x hx hn
   simp only [World.alloc]
   rw [Array.getElem?_push,if_neg (Nat.ne_of_lt (Nat.lt_of_lt_of_le hx h.ext.size))]
   exact h.ext.keep x hx hn
  ·rintro x ⟨k,el',qs,hk,rfl⟩
   rcases hg k el' qs hk with ⟨hkb,hk'⟩|⟨rfl,_,_⟩
   ·rw [hne k hkb];exact h.foot _ ⟨k,el',qs,hk',rfl⟩
   ·rw [hself];exact .inr h.ext.size
theorem Step.through {M D:List Nat} (hD: ∀x∈D,x∈M) (hM: ∀m∈M,m<hp.length) (S:Step ρ0 hp0 w0 ρ (Sym.mask D hp) w) {ρ':Nat→Nat} {hp1:List Blk} {w':World} (T:Step ρ (Sym.mask M hp) w ρ' hp1 w')
    {hp2:List Blk} (hl:hp2.length=hp1.length) (hg: ∀k:Nat,hp2[k]?=if k∈M then hp[k]? else hp1[k]?):Step ρ0 hp0 w0 ρ' (Sym.mask D hp2) w':=by
  have hle:hp.length≤hp1.length:=by have:=T.le;rwa [ya] at this
  have hsame: ∀k,k<hp.length→ρ' k=ρ k:=fun k hk=>T.same k (by rwa [ya])
  have kinds: ∀(k:Nat) el ps,(Sym.mask D hp2)[k]?=some (Blk.mk el ps)→(k∈M∧k<hp.length∧(Sym.mask D hp)[k]?=some (.mk el ps))∨(k∉M∧hp1[k]?=some (.mk el ps)):=by
    intro k el ps hk
    rw [y5] at hk
    obtain ⟨h1,h2⟩:=hk
    rw [hg] at h2
    by_cases hm:k∈M
    ·rw [if_pos hm] at h2;exact .inl ⟨hm,hM k hm,y5.2 ⟨h1,h2⟩⟩
    ·rw [if_neg hm] at h2;exact .inr ⟨hm,h2⟩
  have up: ∀(k:Nat) el ps,(Sym.mask M hp)[k]?=some (Blk.mk el ps)→(Sym.mask D hp)[k]?=some (.mk el ps):=fun k el ps hk=>by
    rw [y5] at hk ⊢
    exact ⟨fun h=>hk.1 (hD k h),hk.2⟩
  have apart: ∀(k:Nat) el ps (k':Nat) el' ps',k∈M→(Sym.mask D hp)[k]?=some (Blk.mk el ps)→hp1[k']?=some (Blk.mk el' ps')→ρ k≠ρ' k':=by
    intro k el ps k' el' ps' hk h1 h2 he
    rcases T.foot (ρ' k') ⟨k',el',ps',h2,rfl⟩ with ⟨j,e,q,hj,hje⟩|hlt
    ·have:j=k:=S.rel.inj j k _ _ _ _ (up j e q hj) h1 (by rw [hje,he])
     subst this
     exact (y5.1 hj).1 hk
    ·have:=S.rel.lt h1;omega
  refine ⟨⟨?_,?_⟩,fun k hk=>?_,?_,?_,?_⟩
  ·intro k el ps hk
   rw [ya,hl]
   rcases kinds k el ps hk with ⟨hm,hkl,hk'⟩|⟨hm,hk'⟩
   ·obtain ⟨h1,el2,fz,h2,h3⟩:=S.rel.mem k el ps hk'
    rw [ya] at h1
    have hc:zq ρ' ps=zq ρ ps:=xf (p:=(· <hp.length)) (fun x hx=>hsame x hx) ps h1
    refine ⟨yq (fun x hx=>Nat.lt_of_lt_of_le hx hle) _ h1,el2,fz,?_,by rw [hc];exact h3⟩
    rw [hsame k hkl,hc,T.ext.keep _ (S.rel.lt hk'),h2]
    rintro ⟨j,e,q,hj,hje⟩
    have:j=k:=S.rel.inj j k _ _ _ _ (up j e q hj) hk' hje
    subst this
    exact (y5.1 hj).1 hm
   ·exact T.rel.mem k el ps hk'
  ·intro k k' el1 ps1 el2 ps2 h1 h2 he
   rcases kinds k el1 ps1 h1 with ⟨hm,hkl,hk'⟩|⟨hm,hk'⟩<;>rcases kinds k' el2 ps2 h2 with ⟨hn,hjl,hj'⟩|⟨hn,hj'⟩
   ·rw [hsame k hkl,hsame k' hjl] at he;exact S.rel.inj k k' _ _ _ _ hk' hj' he
   ·rw [hsame k hkl] at he;exact absurd he (apart k _ _ k' _ _ hm hk' hj')
   ·rw [hsame k' hjl] at he;exact absurd he.symm (apart k' _ _ k _ _ hn hj' hk')
   ·exact T.rel.inj k k' _ _ _ _ hk' hj' he
  ·have:k<hp.length:=by have:=S.le;rw [ya] at this;omega
   rw [hsame k this];exact S.same k hk
  ·have:=S.le;rw [ya] at this ⊢;omega
  ·refine S.ext.trans T.ext fun b hb=>?_
   obtain ⟨k,el,ps,hk,rfl⟩:=hb
   exact S.foot _ ⟨k,el,ps,up k el ps hk,rfl⟩
  ·rintro b ⟨k,el,ps,hk,rfl⟩
   rcases kinds k el ps hk with ⟨hm,hkl,hk'⟩|⟨hm,hk'⟩
   ·rw [hsame k hkl];exact S.foot _ ⟨k,el,ps,hk',rfl⟩
   ·rcases T.foot (ρ' k) ⟨k,el,ps,hk',rfl⟩ with ⟨j,e,q,hj,hje⟩|hlt
    ·rw [←hje];exact S.foot _ ⟨j,e,q,up j e q hj,rfl⟩
    ·exact .inr (Nat.le_trans S.ext.size hlt)
end
end Go.Sym

namespace Go.Sym
section
variable {P:Program} {Γ:Ctx} {ops:Array Oper}
def ze9 (n:Nat) (tm:List (Nat×SV)):Prop:= ∀t v,y3 tm t=some v→v.ok (· <n)
theorem TmRel.okay {nt n:Nat} {ρ:Nat→Nat} {tm:List (Nat×SV)} {a:Act} (h:TmRel nt ρ n tm a):ze9 n tm:=fun t v hv=>(h.val t v hv).1
theorem ze9.mono {n m:Nat} {tm:List (Nat×SV)} (h:ze9 n tm) (hm:n≤m):ze9 m tm:=fun t v hv=>SV.ok_mono (fun _ hk=>Nat.lt_of_lt_of_le hk hm) v (h t v hv)
theorem TmRel.down' {nt n m:Nat} {ρ:Nat→Nat} {tm:List (Nat×SV)} {a:Act} (h:TmRel nt ρ n tm a) (hm:n≤m):TmRel nt ρ m tm a:=
  ⟨h.size,h.defers,fun t v hv=>⟨SV.ok_mono (fun _ hk=>Nat.lt_of_lt_of_le hk hm) v (h.val t v hv).1,(h.val t v hv).2⟩⟩
theorem TmRel.down {nt n m:Nat} {ρ:Nat→Nat} {tm:List (Nat×SV)} {a:Act} (h:TmRel nt ρ m tm a) (hk:ze9 n tm):TmRel nt ρ n tm a:=
  ⟨h.size,h.defers,fun t v hv=>⟨hk t v hv,(h.val t v hv).2⟩⟩
theorem TmRel.same {nt n:Nat} {ρ:Nat→Nat} {tm tm':List (Nat×SV)} {a:Act} (h:TmRel nt ρ n tm a) (hk: ∀t,y3 tm' t=y3 tm t):TmRel nt ρ n tm' a:=
  ⟨h.size,h.defers,fun t v hv=>h.val t v (by rw [←hk];exact hv)⟩
def zav (tm:List (Nat×SV)) (d:Option Nat) (v:SV):List (Nat×SV):=
  match d with
  |some d=>(d,v) ::tm
  |none=>tm
theorem xa {tm:List (Nat×SV)} {d:Option Nat} {v:SV} {t:Nat}:y3 (zav tm d v) t=if d=some t then some v else y3 tm t:=by
  cases d with
  |none=>simp [zav]
  |some d=>simp [zav,y3]
theorem zju {tm tm':List (Nat×SV)} (h: ∀t,y3 tm t=y3 tm' t) (d:Option Nat) (v:SV): ∀t,y3 (zav tm d v) t=y3 (zav tm' d v) t:=fun t=>by
  rw [xa,xa,h]
theorem ze9.put {n:Nat} {tm:List (Nat×SV)} (h:ze9 n tm) {d:Option Nat} {v:SV} (hv:v.ok (· <n)):ze9 n (zav tm d v):=fun t u hu=>by
  rw [xa] at hu
  split at hu
  ·cases hu;exact hv
  ·exact h t u hu
theorem TmRel.put {nt n:Nat} {ρ:Nat→Nat} {tm:List (Nat×SV)} {a:Act} (h:TmRel nt ρ n tm a) {d:Option Nat} {v:SV} (hd: ∀x,d=some x→x<nt) (hv:v.ok (· <n)):
    TmRel nt ρ n (zav tm d v) (a.put d (v.den ρ)):=by
  cases d with
  |none=>exact h
  |some d=>
   refine ⟨by simp [Act.put,h.size],h.defers,fun t u hu=>?_⟩
   rw [xa] at hu
   split at hu
   ·rename_i e;cases e;cases hu
    exact ⟨hv,by simp [Act.put,h.size,hd d rfl]⟩
   ·rename_i e
    obtain ⟨g1,g2⟩:=h.val t u hu
    exact ⟨g1,by simp only [Act.put];rw [Array.getElem?_setIfInBounds_ne (fun x=>e (by rw [x]))];exact g2⟩
theorem zc8 {nt:Nat} {tm:List (Nat×SV)} {hp:List Blk} {d:Option Nat} {v:SV} {K:St→Prop} (h:zcw nt tm hp d v K):(∀x,d=some x→x<nt)∧K ⟨zav tm d v,hp⟩:=by
  unfold zcw at h
  split at h
  ·split at h
   ·rename_i d _ e
    exact ⟨fun x hx=>by cases hx;exact Nat.le_of_ble_eq_true e,h⟩
   ·exact h.elim
  ·exact ⟨fun x hx=>(by cases hx),h⟩
theorem TmRel.unput {nt n:Nat} {ρ:Nat→Nat} {tm:List (Nat×SV)} {a:Act} {d:Option Nat} {v:SV} (h:TmRel nt ρ n (zav tm d v) a) (hk:ze9 n tm): ∃u,TmRel nt ρ n tm (a.put d u):=by
  cases d with
  |none=>exact ⟨.bool true,h⟩
  |some d=>
   cases hu:y3 tm d with
   |none=>
    refine ⟨.bool true,by simp [Act.put,h.size],h.defers,fun t u ht=>?_⟩
    have hne:d≠t:=fun e=>by rw [←e,hu] at ht;cases ht
    refine ⟨hk t u ht,?_⟩
    simp only [Act.put]
    rw [Array.getElem?_setIfInBounds_ne hne]
    exact (h.val t u (by rw [xa,if_neg (fun e=>hne (Option.some.inj e))];exact ht)).2
   |some x=>
    have hd:d<nt:=by
      have:=(h.val d v (by rw [xa,if_pos rfl])).2
      have:=(Array.getElem?_eq_some_iff.1 this).1
      rwa [h.size] at this
    refine ⟨x.den ρ,by simp [Act.put,h.size],h.defers,fun t u ht=>⟨hk t u ht,?_⟩⟩
    by_cases hne:d=t
    ·subst hne
     rw [hu] at ht;cases ht
     simp [Act.put,h.size,hd]
    ·simp only [Act.put]
     rw [Array.getElem?_setIfInBounds_ne hne]
     exact (h.val t u (by rw [xa,if_neg (fun e=>hne (Option.some.inj e))];exact ht)).2
def zg4 (Γ:Ctx) (ops:Array Oper) (n:Nat) (o:Oper) (tm:List (Nat×SV)):Prop:= ∀ρ a,TmRel Γ.nt ρ n tm a→Region.wanted o (yielded ops a.tmps)=true
def zan (P:Program) (Γ:Ctx) (ops:Array Oper) (hp:List Blk) (x:Late) (tm:List (Nat×SV)):Prop:=
  match x.k with
  | .pure=> ∀ρ a,TmRel Γ.nt ρ hp.length tm a→Yields P ops x.o (x.v.den ρ) a
  | .read M=>zg4 Γ ops hp.length x.o tm∧ ∀ρ a w,TmRel Γ.nt ρ hp.length tm a→HpRel ρ (mask M hp) w→Γ.E w→(execOp a.eval x.o).run P w= .ok (.value (x.v.den ρ)) w
  | .maker b=>zg4 Γ ops hp.length x.o tm∧ ∃el ps,hp[b]?=some (.mk el ps)∧okL (· <hp.length) ps∧x.v.ok (· =b)∧okL (· ≠b) ps∧
      ∀ρ a,TmRel Γ.nt ρ hp.length tm a→ ∀(ρ1:Nat→Nat) w,ρ1 b=w.heap.size→(execOp a.eval x.o).run P w= .ok (.value (x.v.den ρ1)) (w.alloc (.cells (zq ρ ps).toArray el))
variable {hp:List Blk}
theorem zan.same {x:Late} {tm tm':List (Nat×SV)} (h:zan P Γ ops hp x tm) (he: ∀t,y3 tm t=y3 tm' t):zan P Γ ops hp x tm':=by
  unfold zan zg4 at*
  split
  all_goals rename_i hk;simp only [hk] at h
  ·exact fun ρ a ht=>h ρ a (ht.same he)
  ·exact ⟨fun ρ a ht=>h.1 ρ a (ht.same he),fun ρ a w ht=>h.2 ρ a w (ht.same he)⟩
  ·obtain ⟨h0,el,ps,h1,h2,h3,h5,h4⟩:=h
   exact ⟨fun ρ a ht=>h0 ρ a (ht.same he),el,ps,h1,h2,h3,h5,fun ρ a ht=>h4 ρ a (ht.same he)⟩
theorem zan.move {x:Late} {tm tm':List (Nat×SV)} (h:zan P Γ ops hp x tm) (hs: ∀cs b,x.o.op≠ .select cs b)
    (hm: ∀(ρ:Nat→Nat) a,TmRel Γ.nt ρ hp.length tm' a→ ∃(d:Option Nat) (u:Value),(∀y,d=some y→y∉x.o.looksAt ops)∧TmRel Γ.nt ρ hp.length tm (a.put d u)):zan P Γ ops hp x tm':=by
  unfold zan zg4 at*
  have ex: ∀(a:Act) (d:Option Nat) (u:Value),(∀y,d=some y→y∉x.o.looksAt ops)→execOp (a.put d u).eval x.o=execOp a.eval x.o∧Region.wanted x.o (yielded ops (a.put d u).tmps)=Region.wanted x.o (yielded ops a.tmps):=
    fun a d u hd=>⟨execOp_put x.o hs a d u hd,wanted_put x.o a d u hd⟩
  split
  all_goals rename_i hk;simp only [hk] at h
  ·intro ρ a ht
   obtain ⟨d,u,hd,ht'⟩:=hm ρ a ht
   exact (h ρ _ ht').of_same (ex a d u hd).1.symm (ex a d u hd).2.symm
  ·refine ⟨fun ρ a ht=>?_,fun ρ a w ht hw hE=>?_⟩
   ·obtain ⟨d,u,hd,ht'⟩:=hm ρ a ht
    rw [←(ex a d u hd).2];exact h.1 ρ _ ht'
   ·obtain ⟨d,u,hd,ht'⟩:=hm ρ a ht
    rw [←(ex a d u hd).1];exact h.2 ρ _ w ht' hw hE
  ·obtain ⟨h0,el,ps,h1,h2,h3,h5,h4⟩:=h
   refine ⟨fun ρ a ht=>?_,el,ps,h1,h2,h3,h5,fun ρ a ht=>?_⟩
   ·obtain ⟨d,u,hd,ht'⟩:=hm ρ a ht
    rw [←(ex a d u hd).2];exact h0 ρ _ ht'
   ·obtain ⟨d,u,hd,ht'⟩:=hm ρ a ht
    rw [←(ex a d u hd).1];exact h4 ρ _ ht'
theorem zan.back {x:Late} {tm:List (Nat×SV)} {d:Option Nat} {v:SV} (h:zan P Γ ops hp x (zav tm d v)) (hs: ∀cs b,x.o.op≠ .select cs b) (hd: ∀y,d=some y→y∉x.o.looksAt ops)
    (hn: ∀y,d=some y→y<Γ.nt) (hv:v.ok (· <hp.length)):zan P Γ ops hp x tm:=
  h.move hs fun ρ _ ht=>⟨d,v.den ρ,hd,ht.put hn hv⟩
theorem zan.forth {x:Late} {tm:List (Nat×SV)} {d:Option Nat} {v:SV} (h:zan P Γ ops hp x tm) (hs: ∀cs b,x.o.op≠ .select cs b) (hd: ∀y,d=some y→y∉x.o.looksAt ops)
    (hk:ze9 hp.length tm):zan P Γ ops hp x (zav tm d v):=
  h.move hs fun _ _ ht=>by obtain ⟨u,hu⟩:=ht.unput hk;exact ⟨d,u,hd,hu⟩
def xz (P:Program) (Γ:Ctx) (ops:Array Oper) (hp:List Blk):List (Nat×SV)→List Late→List (Nat×SV)→Prop
  |tm,[],tm'=> ∀t,y3 tm t=y3 tm' t
  |tm,x ::xs,tm'=>zan P Γ ops hp x tm∧x.v.ok (· <hp.length)∧(∀d,x.o.dst=some d→d<Γ.nt)∧xz P Γ ops hp (zav tm x.o.dst x.v) xs tm'
theorem xz.same: ∀{xs:List Late} {tm tm1 tm':List (Nat×SV)},xz P Γ ops hp tm xs tm'→(∀t,y3 tm t=y3 tm1 t)→xz P Γ ops hp tm1 xs tm'
  | [],_,_,_,h,he=>fun t=>by rw [←he];exact h t
  |_ ::_,_,_,_,⟨h1,h2,h3,h4⟩,he=>⟨h1.same he,h2,h3,xz.same h4 (zju he _ _)⟩
theorem xz.snoc: ∀{xs:List Late} {tm tm':List (Nat×SV)} {x:Late},xz P Γ ops hp tm xs tm'→zan P Γ ops hp x tm'→x.v.ok (· <hp.length)→(∀d,x.o.dst=some d→d<Γ.nt)→
    xz P Γ ops hp tm (xs++ [x]) (zav tm' x.o.dst x.v)
  | [],_,_,_,h,hf,hv,hd=>⟨hf.same fun t=>(h t).symm,hv,hd,zju h _ _⟩
  |_ ::_,_,_,_,⟨h1,h2,h3,h4⟩,hf,hv,hd=>⟨h1,h2,h3,xz.snoc h4 hf hv hd⟩
theorem xz.bubble (hs: ∀(j:Nat) (o:Oper) cs b,ops[j]?=some o→o.op≠ .select cs b) {x:Late} (hx:ops[x.i]?=some x.o) {B:List Late}: ∀{A:List Late} {tm tm':List (Nat×SV)},xz P Γ ops hp tm (A++x ::B) tm'→ze9 hp.length tm→
    (∀y∈A,ops[y.i]?=some y.o∧y.o.apart ops x.o=true)→xz P Γ ops hp tm (x ::(A++B)) tm'
  | [],_,_,h,_,_=>h
  |y ::A,tm,tm',⟨h1,h2,h3,h4⟩,hk,hA=>by
   obtain ⟨g1,g2,g3,g4⟩:=xz.bubble hs hx h4 (hk.put h2) (fun z hz=>hA z (by simp [hz]))
   obtain ⟨hy,hap⟩:=hA y (by simp)
   obtain ⟨p1,p2,p3⟩:=Oper.apart_spec hap
   refine ⟨g1.back (fun cs b=>hs _ _ cs b hx) p1 h3 h2,g2,g3,h1.forth (fun cs b=>hs _ _ cs b hy) p3 hk,h2,h3,g4.same fun t=>?_⟩
   rw [xa,xa,xa,xa]
   by_cases e1:x.o.dst=some t
   ·have:y.o.dst≠some t:=fun e=>p2 t e e1
    rw [if_pos e1,if_neg this,if_pos e1]
   ·simp [e1]
def z5i (tm:List (Nat×SV)):List Late→List (Nat×SV)
  | []=>tm
  |x ::xs=>z5i (zav tm x.o.dst x.v) xs
theorem xz.end_: ∀{xs:List Late} {tm tm':List (Nat×SV)},xz P Γ ops hp tm xs tm'→ ∀t,y3 (z5i tm xs) t=y3 tm' t
  | [],_,_,h=>h
  |_ ::xs,_,_,⟨_,_,_,h4⟩=>xz.end_ (xs:=xs) h4
theorem zan.backs {hp':List Blk} (hle:hp.length≤hp'.length) {x:Late} (hs: ∀cs b,x.o.op≠ .select cs b): ∀{xs:List Late} {tm tm':List (Nat×SV)},xz P Γ ops hp tm xs tm'→zan P Γ ops hp' x (z5i tm xs)→
    (∀y∈xs,∀d,y.o.dst=some d→d∉x.o.looksAt ops)→zan P Γ ops hp' x tm
  | [],_,_,_,h,_=>h
  |y ::xs,tm,tm',⟨h1,h2,h3,h4⟩,h,hd=>
   (zan.backs hle hs h4 h (fun z hz=>hd z (by simp [hz]))).back hs (hd y (by simp)) h3 (SV.ok_mono (fun _ hk=>Nat.lt_of_lt_of_le hk hle) _ h2)
theorem zan.later {hp':List Blk} (hle:hp.length≤hp'.length) {x:Late} {tm:List (Nat×SV)} (h:zan P Γ ops hp x tm) (hk:ze9 hp.length tm)
    (hb: ∀b,x.k= .maker b→hp'[b]?=hp[b]?)
    (hr: ∀M,x.k= .read M→ ∀ρ a w,TmRel Γ.nt ρ hp'.length tm a→HpRel ρ (mask M hp') w→Γ.E w→(execOp a.eval x.o).run P w= .ok (.value (x.v.den ρ)) w):zan P Γ ops hp' x tm:=by
  unfold zan zg4 at*
  split
  all_goals rename_i hk';simp only [hk'] at h
  ·exact fun ρ a ht=>h ρ a (ht.down hk)
  ·exact ⟨fun ρ a ht=>h.1 ρ a (ht.down hk),hr _ hk'⟩
  ·obtain ⟨h0,el,ps,h1,h2,h3,h5,h4⟩:=h
   exact ⟨fun ρ a ht=>h0 ρ a (ht.down hk),el,ps,by rw [hb _ hk',h1],yq (fun _ h=>Nat.lt_of_lt_of_le h hle) _ h2,h3,h5,fun ρ a ht=>h4 ρ a (ht.down hk)⟩
theorem xz.anchor (hs: ∀(j:Nat) (o:Oper) cs b,ops[j]?=some o→o.op≠ .select cs b) {hp':List Blk} (hle:hp.length≤hp'.length) {d:Option Nat} {v:SV} {o:Oper} (hd:o.dst=d) (hn: ∀y,d=some y→y<Γ.nt) (hv:v.ok (· <hp'.length)):
    ∀{xs:List Late} {tm tm':List (Nat×SV)},xz P Γ ops hp tm xs tm'→ze9 hp.length tm→(∀x∈xs,ops[x.i]?=some x.o∧x.o.apart ops o=true)→
    (∀x∈xs,∀b,x.k= .maker b→hp'[b]?=hp[b]?)→
    (∀x∈xs,∀M,x.k= .read M→ ∀ρ a w,TmRel Γ.nt ρ hp'.length (zav tm' d v) a→HpRel ρ (mask M hp') w→Γ.E w→(execOp a.eval x.o).run P w= .ok (.value (x.v.den ρ)) w)→
    (xs.Pairwise fun x y=> ∀M,x.k= .read M→ ∀e,y.o.dst=some e→e∉x.o.looksAt ops)→
    (∀x∈xs,∀M,x.k= .read M→(∀e,x.o.dst=some e→e∉x.o.looksAt ops))→
    xz P Γ ops hp' (zav tm d v) xs (zav tm' d v)
  | [],_,_,h,_,_,_,_,_,_=>zju h _ _
  |x ::xs,tm,tm',h,hk,hap,hb,hr,hpw,hself=>by
   obtain ⟨h1,h2,h3,h4⟩:=h
   obtain ⟨hx,hxa⟩:=hap x (by simp)
   obtain ⟨p1,p2,p3⟩:=Oper.apart_spec hxa
   have hsx: ∀cs b,x.o.op≠ .select cs b:=fun cs b=>hs _ _ cs b hx
   have hk':ze9 hp'.length tm:=hk.mono hle
   have h2':x.v.ok (· <hp'.length):=SV.ok_mono (fun _ hk=>Nat.lt_of_lt_of_le hk hle) _ h2
   have f:zan P Γ ops hp' x tm:=by
     refine h1.later hle hk (hb x (by simp)) fun M hM=>?_
     have hr0:=hr x (by simp) M hM
     let x':Late:=⟨x.i,{x.o with guard:=none},x.v,.read M⟩
     have la: ∀y,y∈x'.o.looksAt ops→y∈x.o.looksAt ops:=fun y hy=>by
       simp only [x',Oper.looksAt,List.append_nil,List.mem_append] at hy ⊢
       exact .inl hy
     have ex: ∀a:Act,execOp a.eval x'.o=execOp a.eval x.o:=fun a=>by
       simp only [x']
       obtain ⟨dst,op,type,pos,after,guard⟩:=x.o
       cases op<;>rfl
     have f':zan P Γ ops hp' x' (zav tm' d v):=by
       unfold zan
       simp only [x']
       refine ⟨fun ρ a _=>rfl,fun ρ a w ht hw hE=>?_⟩
       have:=ex a
       simp only [x'] at this
       rw [this];exact hr0 ρ a w ht hw hE
     have f'':zan P Γ ops hp' x' tm:=by
       have g1:zan P Γ ops hp' x' tm':=f'.back hsx (fun y hy hl=>p3 y (by rw [hd];exact hy) (la y hl)) hn hv
       have g2:zan P Γ ops hp' x' (z5i (zav tm x.o.dst x.v) xs):=g1.same fun t=>(h4.end_ t).symm
       have g3:zan P Γ ops hp' x' (zav tm x.o.dst x.v):=zan.backs (x:=x') hle hsx h4 g2 (fun y hy e he hl=>(List.pairwise_cons.1 hpw).1 y hy M hM e he (la e hl))
       exact g3.back hsx (fun y hy hl=>hself x (by simp) M hM y hy (la y hl)) h3 h2'
     unfold zan at f''
     simp only [x'] at f''
     intro ρ a w ht hw hE
     have:=ex a
     simp only [x'] at this
     rw [←this];exact f''.2 ρ a w ht hw hE
   refine ⟨f.forth hsx (fun y hy=>p3 y (by rw [hd];exact hy)) hk',h2',h3,?_⟩
   have ih:=xz.anchor hs hle hd hn hv h4 (hk.put h2) (fun y hy=>hap y (by simp [hy])) (fun y hy=>hb y (by simp [hy])) (fun y hy=>hr y (by simp [hy])) (List.pairwise_cons.1 hpw).2 (fun y hy=>hself y (by simp [hy]))
   refine ih.same fun t=>?_
   rw [xa,xa,xa,xa]
   by_cases e1:d=some t
   ·have:x.o.dst≠some t:=fun e=>p2 t e (by rw [hd];exact e1)
    rw [if_pos e1,if_neg this,if_pos e1]
   ·simp [e1]
theorem xz.grow {b:Blk} (hok: ∀(k:Nat) el ps,hp[k]?=some (Blk.mk el ps)→okL (· <hp.length) ps):
    ∀{xs:List Late} {tm tm':List (Nat×SV)},xz P Γ ops hp tm xs tm'→ze9 hp.length tm→(∀x∈xs,∀c,x.k= .maker c→c<hp.length)→xz P Γ ops (hp++ [b]) tm (addM hp.length xs) tm'
  | [],_,_,h,_,_=>h
  |x ::xs,tm,tm',⟨h1,h2,h3,h4⟩,hk,hc=>by
   have hle:hp.length≤(hp++ [b]).length:=by simp
   have ih:=xz.grow (b:=b) hok h4 (hk.put h2) (fun y hy=>hc y (by simp [hy]))
   have h2':x.v.ok (· <(hp++ [b]).length):=SV.ok_mono (fun _ hk=>Nat.lt_of_lt_of_le hk hle) _ h2
   obtain ⟨i,o,v,kx⟩:=x
   cases kx with
   |pure=>exact ⟨h1.later hle hk (fun _ h=>by cases h) (fun _ h=>by cases h),h2',h3,ih⟩
   |maker c=>
    refine ⟨h1.later hle hk (fun b' h=>?_) (fun _ h=>by cases h),h2',h3,ih⟩
    cases h
    rw [List.getElem?_append_left (hc ⟨i,o,v,.maker c⟩ (by simp) c rfl)]
   |read M=>
    refine ⟨?_,h2',h3,ih⟩
    refine ⟨fun ρ a ht=>h1.1 ρ a (ht.down hk),fun ρ a w ht hw=>h1.2 ρ a w (ht.down hk) (hw.sub fun k el ps hkk=>?_)⟩
    rw [y5] at hkk
    have hkl:k<hp.length:=(List.getElem?_eq_some_iff.1 hkk.2).1
    refine ⟨y5.2 ⟨?_,by rw [List.getElem?_append_left hkl];exact hkk.2⟩,by rw [ya];exact hok k el ps hkk.2⟩
    simp only [List.mem_cons,not_or]
    exact ⟨Nat.ne_of_lt hkl,hkk.1⟩
end
end Go.Sym

namespace Go.Sym
section
variable {P:Program} {Γ:Ctx} {ops:Array Oper}
inductive Before (ops:Array Oper):Nat→Nat→Prop
  |edge {e j:Nat} {o:Oper}:ops[j]?=some o→e∈xk o→Before ops e j
  |trans {e j k:Nat} {o:Oper}:ops[j]?=some o→e∈xk o→Before ops k e→Before ops k j
theorem zka {o:Oper} {e:Nat}:e∈xk o↔ ∃x∈o.after,Region.binds .any x=true∧x.on=e:=by
  unfold xk
  simp only [List.mem_map,List.mem_filter,Array.mem_toList_iff]
  constructor
  ·rintro ⟨x,⟨h1,h2⟩,h3⟩;exact ⟨x,h1,h2,h3⟩
  ·rintro ⟨x,h1,h2,h3⟩;exact ⟨x,⟨h1,h2⟩,h3⟩
theorem Before.listed {L:Nat→Prop} (down: ∀i o,L i→ops[i]?=some o→ ∀e∈xk o,L e) {k j:Nat} (h:Before ops k j):(∀o,ops[j]?=some o→ ∀e∈xk o,L e)→L k:=by
  induction h with
  |edge ho he=>exact fun hj=>hj _ ho _ he
  |trans ho he _ ih=>exact fun hj=>ih fun o ho'=>down _ o (hj _ ho _ he) ho'
theorem ze6 {i:Nat}: ∀{l:List PStep},zqh i l=true↔ ∃s∈l,s.i=i
  | []=>by simp [zqh]
  |x ::xs=>by
   simp only [zqh,Bool.or_eq_true,ze6,List.mem_cons]
   rw [show (Nat.beq x.i i=true)=(x.i=i) from propext ⟨Nat.eq_of_beq_eq_true,fun h=>by rw [h];exact Nat.beq_refl i⟩]
   constructor
   ·rintro (h|⟨s,h1,h2⟩)
    ·exact ⟨x,.inl rfl,h⟩
    ·exact ⟨s,.inr h1,h2⟩
   ·rintro ⟨s,rfl|h1,h2⟩
    ·exact .inl h2
    ·exact .inr ⟨s,h1,h2⟩
def zey (ops:Array Oper) (T:Table):Prop:= ∀i k,Nat.testBit (zoc T i) k=true→Before ops k i
theorem zhf {T:Table} (hT:zey ops T) {j:Nat} {o:Oper} (ho:ops[j]?=some o) {k:Nat}: ∀{es:List Nat},(∀e∈es,e∈xk o)→Nat.testBit (zdx T es) k=true→Before ops k j
  | [],_,h=>by simp [zdx] at h
  |e ::es,he,h=>by
   have h':Nat.testBit ((1<<<e|||zoc T e)|||zdx T es) k=true:=h
   rw [Nat.testBit_or,Nat.testBit_or,Bool.or_eq_true,Bool.or_eq_true] at h'
   rcases h' with (h1|h1)|h1
   ·rw [Nat.testBit_shiftLeft] at h1
    simp only [Bool.and_eq_true,decide_eq_true_eq] at h1
    have:k-e=0:=by
      have:=h1.2
      rw [Nat.testBit_one_eq_true_iff_self_eq_zero] at this
      exact this
    have:k=e:=by omega
    subst this
    exact .edge ho (he _ (by simp))
   ·exact .trans ho (he e (by simp)) (hT _ _ h1)
   ·exact zhf hT ho (fun x hx=>he x (by simp [hx])) h1
theorem zey.cons {T:Table} (hT:zey ops T) {j:Nat} {o:Oper} (ho:ops[j]?=some o):zey ops ((j,zdx T (xk o)) ::T):=by
  intro i k h
  simp only [zoc] at h
  split at h
  ·rename_i e
   have:j=i:=by simpa using e
   subst this
   exact zhf hT ho (fun _ h=>h) h
  ·exact hT i k h
theorem zr0 {s:PStep} {o:Oper} {m:Nat} (hm: ∀k,Nat.testBit m k=true→Before ops k s.i): ∀{pre:List PStep},zo5 ops s o m pre=true→ ∀x∈pre,
    (x.i∈s.loose∧ ∃y,ops[x.i]?=some y∧y.apart ops o=true)∨(x.i∉s.loose∧Before ops x.i s.i)
  | [],_=>by simp
  |y ::ys,h=>by
   simp only [zo5,Bool.and_eq_true] at h
   intro x hx
   rcases List.mem_cons.1 hx with rfl|hx
   ·have h1:=h.1
    split at h1
    ·rename_i e
     split at h1
     ·rename_i y hy;exact .inl ⟨x9.1 e,y,hy,h1⟩
     ·cases h1
    ·rename_i e
     exact .inr ⟨fun hl=>(by rw [x9.2 hl] at e;cases e),hm _ h1⟩
   ·exact zr0 hm h.2 x hx
structure StepOK (Γ:Ctx) (ops:Array Oper) (pre:List PStep) (s:PStep) (ss:List PStep) (o:Oper):Prop where
  get:ops[s.i]?=some o
  new: ∀x∈pre,x.i≠s.i
  edges: ∀e∈xk o,∃x∈pre,x.i=e
  pairs: ∀x∈pre,(x.i∈s.loose∧ ∃y,ops[x.i]?=some y∧y.apart ops o=true)∨(x.i∉s.loose∧Before ops x.i s.i)
  forced:za1 Γ o.op= .anchor→ ∀t∈ss,∃u,ops[t.i]?=some u∧ ∃e∈xk u,∀x∈pre,x.i≠e
  reads:za1 Γ o.op= .anchor→zjz ops Γ s.loose pre [o.dst]=true
theorem z41 {pre:List PStep} {s:PStep} {ss:List PStep} {T:Table} (hT:zey ops T) (h:zdj ops Γ pre (s ::ss) T=true):
    ∃o T',StepOK Γ ops pre s ss o∧zey ops T'∧zdj ops Γ (s ::pre) ss T'=true:=by
  simp only [zdj] at h
  split at h
  ·cases h
  ·rename_i o ho
   simp only [Bool.and_eq_true,Bool.not_eq_true'] at h
   obtain ⟨⟨⟨⟨h1,h2⟩,h3⟩,h4⟩,h5⟩:=h
   have hnot: ∀{i:Nat} {l:List PStep},zqh i l=false→ ∀x∈l,x.i≠i:=fun hf x hx he=>by
     rw [ze6.2 ⟨x,hx,he⟩] at hf;cases hf
   refine ⟨o,_,⟨ho,hnot h1,?_,zr0 (fun k hk=>zhf hT ho (fun _ h=>h) hk) h3,?_,?_⟩,hT.cons ho,h5⟩
   ·intro e he
    rw [List.all_eq_true] at h2
    obtain ⟨x,hx,hxe⟩:=ze6.1 (h2 e he)
    exact ⟨x,hx,hxe⟩
   ·intro hk t ht
    rw [hk] at h4
    simp only [Bool.and_eq_true,List.all_eq_true] at h4
    have h6:=h4.1 t ht
    split at h6
    ·rename_i u hu
     rw [List.any_eq_true] at h6
     obtain ⟨e,he,hne⟩:=h6
     exact ⟨u,hu,e,he,hnot (by simpa using hne)⟩
    ·cases h6
   ·intro hk
    rw [hk] at h4
    simp only [Bool.and_eq_true] at h4
    exact h4.2
inductive Along:List Late→List PStep→Prop
  |nil:Along [] []
  |skip {l:List Late} {pre:List PStep} {p:PStep}:Along l pre→Along l (p ::pre)
  |take {l:List Late} {pre:List PStep} {p:PStep} {x:Late}:x.i=p.i→Along l pre→Along (x ::l) (p ::pre)
theorem Along.mem {l:List Late} {pre:List PStep} (h:Along l pre): ∀x∈l,∃p∈pre,p.i=x.i:=by
  induction h with
  |nil=>simp
  |skip _ ih=>intro x hx;obtain ⟨p,h1,h2⟩:=ih x hx;exact ⟨p,by simp [h1],h2⟩
  |take he _ ih=>
   intro x hx
   rcases List.mem_cons.1 hx with rfl|hx
   ·exact ⟨_,by simp,he.symm⟩
   ·obtain ⟨p,h1,h2⟩:=ih x hx;exact ⟨p,by simp [h1],h2⟩
theorem z2y {L:List Nat} {late:List Late} {pre:List PStep} (hal:Along late pre): ∀{ds:List (Option Nat)},zjz ops Γ L pre ds=true→(∀x∈late,ops[x.i]?=some x.o)→
    (∀x∈late,za1 Γ x.o.op= .read→x.i∈L→(∀e,x.o.dst=some e→e∉x.o.looksAt ops)∧ ∀d∈ds,∀e,d=some e→e∉x.o.looksAt ops)∧
    (late.Pairwise fun y x=>za1 Γ x.o.op= .read→x.i∈L→ ∀e,y.o.dst=some e→e∉x.o.looksAt ops):=by
  induction hal with
  |nil=>intro ds _ _;simp
  |skip hal ih=>
   intro ds h hget
   simp only [zjz] at h
   split at h
   ·rename_i y hy
    simp only [Bool.and_eq_true] at h
    obtain ⟨g1,g2⟩:=ih h.2 hget
    exact ⟨fun z hz hk hl=>⟨(g1 z hz hk hl).1,fun d hd=>(g1 z hz hk hl).2 d (by simp [hd])⟩,g2⟩
   ·cases h
  | @take l pre p x he hal ih=>
    intro ds h hget
    simp only [zjz] at h
    split at h
    ·rename_i y hy
     have hxy:y=x.o:=by
       have:=hget x (by simp)
       rw [he,hy] at this
       exact Option.some.inj this
     subst hxy
     simp only [Bool.and_eq_true] at h
     obtain ⟨h1,h2⟩:=h
     obtain ⟨g1,g2⟩:=ih h2 (fun z hz=>hget z (by simp [hz]))
     refine ⟨fun z hz hk hl=>?_,List.pairwise_cons.2 ⟨fun z hz hk hl e hd=>?_,g2⟩⟩
     ·rcases List.mem_cons.1 hz with rfl|hz
      ·rw [hk,x9.2 (he ▸ hl)] at h1
       simp only [List.all_eq_true] at h1
       have key: ∀d∈z.o.dst ::ds,∀e,d=some e→e∉z.o.looksAt ops:=fun d hd e hde=>by
         have:=h1 d hd
         rw [hde] at this
         simpa using this
       exact ⟨key _ (by simp),fun d hd=>key d (by simp [hd])⟩
      ·exact ⟨(g1 z hz hk hl).1,fun d hd=>(g1 z hz hk hl).2 d (by simp [hd])⟩
     ·exact (g1 z hz hk hl).2 _ (by simp) e hd
    ·cases h
def zah (L:List Nat):List Late→List Nat
  | []=> []
  |x ::xs=>match x.k with
   | .maker b=>if zaz L x.i then b ::zah L xs else zah L xs
   |_=>zah L xs
theorem zb5 {L:List Nat}: ∀{late:List Late} {k:List Nat→Prop},zbj L late k→k (zah L late)
  | [],_,h=>h
  |⟨i,o,v,kx⟩ ::xs,k,h=>by
   cases kx with
   |pure=>exact zb5 (late:=xs) h
   |read M=>exact zb5 (late:=xs) h
   |maker b=>
    simp only [zbj] at h
    simp only [zah]
    split at h
    ·rename_i e;rw [if_pos e];exact zb5 (late:=xs) h
    ·rename_i e;rw [if_neg (by rw [e];simp)];exact zb5 (late:=xs) h
theorem zao {L:List Nat} {b:Nat}: ∀{late:List Late},b∈zah L late↔ ∃x∈late,x.k= .maker b∧x.i∈L
  | []=>by simp [zah]
  |x ::xs=>by
   simp only [zah]
   split
   ·rename_i c hc
    split
    ·rename_i e
     rw [x9] at e
     simp only [List.mem_cons,zao]
     constructor
     ·rintro (rfl|⟨y,h1,h2⟩)
      ·exact ⟨x,.inl rfl,hc,e⟩
      ·exact ⟨y,.inr h1,h2⟩
     ·rintro ⟨y,rfl|h1,h2,h3⟩
      ·rw [hc] at h2;cases h2;exact .inl rfl
      ·exact .inr ⟨y,h1,h2,h3⟩
    ·rename_i e
     rw [x9] at e
     rw [zao]
     constructor
     ·rintro ⟨y,h1,h2⟩;exact ⟨y,by simp [h1],h2⟩
     ·rintro ⟨y,h1,h2,h3⟩
      rcases List.mem_cons.1 h1 with rfl|h1
      ·exact absurd h3 e
      ·exact ⟨y,h1,h2,h3⟩
   ·rename_i hc
    rw [zao]
    constructor
    ·rintro ⟨y,h1,h2⟩;exact ⟨y,by simp [h1],h2⟩
    ·rintro ⟨y,h1,h2,h3⟩
     rcases List.mem_cons.1 h1 with rfl|h1
     ·exact absurd h2 (hc b)
     ·exact ⟨y,h1,h2,h3⟩
theorem zv2 {tm:List (Nat×SV)} {hp:List Blk} {L:List Nat}: ∀{late:List Late} {p:Prop},reK Γ tm hp L late p→
    p∧ ∀x∈late,∀M,x.k= .read M→x.i∈L→zdr Γ x.o.op tm (mask M hp) fun v=>v=x.v
  | [],_,h=>⟨h,by simp⟩
  |x ::xs,p,h=>by
   simp only [reK] at h
   split at h
   ·rename_i M hM
    split at h
    ·have h1:=zkk h
     obtain ⟨v,h2,h3⟩:=zww x.o.op tm (mask M hp) _ h1
     obtain ⟨rfl,h4⟩:=zlf h2
     obtain ⟨h5,h6⟩:=zv2 h4
     refine ⟨h5,fun y hy M' hM' hl=>?_⟩
     rcases List.mem_cons.1 hy with rfl|hy
     ·rw [hM] at hM';cases hM';exact h3 _ rfl
     ·exact h6 y hy M' hM' hl
    ·rename_i e
     obtain ⟨h5,h6⟩:=zv2 h
     refine ⟨h5,fun y hy M' hM' hl=>?_⟩
     rcases List.mem_cons.1 hy with rfl|hy
     ·rw [x9.2 hl] at e;cases e
     ·exact h6 y hy M' hM' hl
   ·rename_i hk
    obtain ⟨h5,h6⟩:=zv2 h
    refine ⟨h5,fun y hy M' hM' hl=>?_⟩
    rcases List.mem_cons.1 hy with rfl|hy
    ·exact absurd hM' (hk M')
    ·exact h6 y hy M' hM' hl
theorem zc1 {b:Nat} {y:Late}: ∀{late:List Late},y∈addM b late→ ∃x∈late,y.i=x.i∧y.o=x.o∧y.v=x.v∧
    ((∃M,x.k= .read M∧y.k= .read (b ::M))∨((∀M,x.k≠ .read M)∧y.k=x.k))
  | [],h=>by simp [addM] at h
  |x ::xs,h=>by
   simp only [addM,List.mem_cons] at h
   rcases h with h|h
   ·refine ⟨x,by simp,?_⟩
    split at h
    ·rename_i M hM;subst h;exact ⟨rfl,rfl,rfl,.inl ⟨M,hM,rfl⟩⟩
    ·rename_i hM;subst h;exact ⟨rfl,rfl,rfl,.inr ⟨hM,rfl⟩⟩
   ·obtain ⟨z,h1,h2⟩:=zc1 h
    exact ⟨z,by simp [h1],h2⟩
theorem zd2 {b:Nat}: ∀{late:List Late},addM b late=late.map fun x=>match x.k with| .read M=>⟨x.i,x.o,x.v,.read (b ::M)⟩|_=>x
  | []=>rfl
  |⟨i,o,v,kx⟩ ::xs=>by cases kx<;>simp [addM,zd2]
theorem Along.addM {b:Nat} {late:List Late} {pre:List PStep} (h:Along late pre):Along (addM b late) pre:=by
  induction h with
  |nil=>exact .nil
  |skip _ ih=>exact .skip ih
  |take he _ ih=>
   refine .take ?_ ih
   rw [←he]
   split<;>rfl
theorem zsf {o:Oper} {n:Nat} {tm:List (Nat×SV)} {yes no:Prop} (h:zjk ops.toList o tm yes no):
    (zg4 Γ ops n o tm∧yes)∨((∀ρ a,TmRel Γ.nt ρ n tm a→Region.wanted o (yielded ops a.tmps)=false)∧no):=by
  unfold zjk at h
  split at h
  ·rename_i hg
   exact .inl ⟨fun ρ a _=>by simp [Region.wanted,hg],h⟩
  ·rename_i j want hg
   obtain ⟨g,hj,h⟩:=zch h
   split at h
   ·rename_i d hd
    obtain ⟨v,hv,h⟩:=z6 h
    split at h
    ·rename_i t
     obtain ⟨h1,h2⟩:=zt h
     have key: ∀(ρ:Nat→Nat) a,TmRel Γ.nt ρ n tm a→Region.wanted o (yielded ops a.tmps)=(t==want):=fun ρ a ht=>by
       have hval:=(ht.val d _ hv).2
       have hj':ops[j]?=some g:=by rw [←hj];simp
       simp only [Region.wanted,hg,yielded,hj',Option.bind_some,hd,hval,SV.den]
       cases t<;>cases want<;>rfl
     cases e:(t==want) with
     |true=>exact .inl ⟨fun ρ a ht=>by rw [key ρ a ht,e],h1 e⟩
     |false=>exact .inr ⟨fun ρ a ht=>by rw [key ρ a ht,e],h2 e⟩
    ·refine .inr ⟨fun ρ a ht=>?_,h⟩
     have hval:=(ht.val d _ hv).2
     have hj':ops[j]?=some g:=by rw [←hj];simp
     simp only [Region.wanted,hg,yielded,hj',Option.bind_some,hd,hval,SV.den]
     cases want<;>rfl
    ·exact h.elim
   ·exact h.elim
end
end Go.Sym
