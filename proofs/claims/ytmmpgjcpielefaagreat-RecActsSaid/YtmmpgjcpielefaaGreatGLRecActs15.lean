/-
  The symbolic engine, part 26: functions. No program in sight; no condition beyond each lemma's own.
-/
import Derived.Test.YtmmpgjcpielefaaGreatGLRecActs14
set_option linter.unusedSimpArgs false
set_option linter.unusedVariables false
namespace Go.Sym
section
variable {P:Program} {Γ:Ctx} {ρ0:Nat→Nat} {hp0:List Blk} {w0:World}
variable {a:Act} {w:World} {tm:List (Nat×SV)} {hp:List Blk} {ρ:Nat→Nat}
def zhm (a:Act):ResultVar→Sem Value
  | .tmp t=>pure (a.tmps.getD t undef)
  | .cell c t=>do loadVar t (←asAddr (a.tmps.getD c undef))
theorem zye (hΓ:CtxOK P Γ) (hr:HpRel ρ hp w) (ht:TmRel Γ.nt ρ hp.length tm a): ∀{rs:List ResultVar} {k:List SV→Prop},zt7 Γ tm hp rs k→
    ∃vs,k vs∧okL (· <hp.length) vs∧(rs.mapM (zhm a)).run P w= .ok (xe ρ vs) w
  | [],k,h=>⟨[],h,trivial,by simp [xe,Sem.run_pure]⟩
  | .tmp t ::rs,k,h=>by
    simp only [zt7] at h
    obtain ⟨v,hv,h⟩:=yb h
    obtain ⟨vs,h1,h2,h3⟩:=zye hΓ hr ht h
    obtain ⟨g1,g2⟩:=ht.val t v hv
    refine ⟨v ::vs,h1,⟨g1,h2⟩,?_⟩
    have:a.tmps.getD t undef=v.den ρ:=by simp [g2]
    rw [List.mapM_cons]
    simp only [zhm,this,Sem.run_bind,Sem.run_pure,Result.andThen_ok,h3,xe]
  | .cell c t ::rs,k,h=>by
    simp only [zt7] at h
    obtain ⟨ti,hti,h⟩:=yb h
    obtain ⟨v,hv,h⟩:=yb h
    obtain ⟨g1,g2⟩:=ht.val c v hv
    split at h
    ·rename_i q j b oo
     obtain ⟨el,ps,hk,h⟩:=zce h
     obtain ⟨hok,_⟩:=hr.mem q el ps hk
     obtain ⟨u,h,hu,hl⟩:=zj5 (ρ:=ρ) hok h
     obtain ⟨vs,h1,h2,h3⟩:=zye hΓ hr ht h
     refine ⟨u ::vs,h1,⟨hu,h2⟩,?_⟩
     have:a.tmps.getD c undef= .pointer (some ⟨ρ q,b+off oo,none⟩):=by simp [g2,SV.den]
     rw [List.mapM_cons]
     have hload:=zfu (P:=P) (hΓ.ty t ti hti) (fun i=>hr.cell hk i) hl
     simp only [zhm,this,Sem.run_bind,asAddr,Sem.run_pure,Result.andThen_ok,hload,h3,xe]
    ·exact h.elim
theorem yfp {vs:List SV} {k:SV→Prop} (h:z3r vs k) (hok:okL (· <hp.length) vs): ∃r,k r∧r.ok (· <hp.length)∧r.den ρ=(if h:(xe ρ vs).toArray.size=1 then (xe ρ vs).toArray[0] else .tuple (xe ρ vs).toArray):=by
  unfold z3r at h
  split at h
  ·rename_i v
   exact ⟨v,h,hok.1,by simp [xe]⟩
  ·rename_i hne
   refine ⟨.tup vs,h,hok,?_⟩
   have: ¬(xe ρ vs).toArray.size=1:=by
     rw [List.size_toArray,zmm]
     intro h1
     match vs,h1 with
     | [v],_=>exact hne v rfl
   rw [dif_neg this];rfl
theorem zve {fn:Func} {vs:List SV} (h:(fn.results.toList.mapM (zhm a)).run P w= .ok (xe ρ vs) w):
    (results fn a.tmps).run P w= .ok (if h:(xe ρ vs).toArray.size=1 then (xe ρ vs).toArray[0] else .tuple (xe ρ vs).toArray) w:=by
  have e2:(fn.results.mapM (zhm a):Sem (Array Value))=List.toArray <$>fn.results.toList.mapM (zhm a):=by
    rw [Array.mapM_eq_mapM_toList]
  have e3:(List.toArray <$>fn.results.toList.mapM (zhm a):Sem (Array Value)).run P w= .ok (xe ρ vs).toArray w:=by
    rw [←bind_pure_comp,Sem.run_bind,h];rfl
  show Sem.run P (fn.results.mapM (zhm a) >>=fun vs=>pure (if h:vs.size=1 then vs[0] else .tuple vs)) w=_
  rw [Sem.run_bind,e2,e3]
  rfl
theorem zvt: ∀{args:List SV} {i:Nat} {k:List (Nat×SV)→Prop},zsn args i k→ ∃tm,k tm∧ ∀t v,xa tm t=some v→i≤t∧args[t-i]?=some v
  | [],i,k,h=>⟨[],h,fun t v hv=>by cases hv⟩
  |x ::xs,i,k,h=>by
   simp only [zsn] at h
   obtain ⟨tm,h1,h2⟩:=zvt h
   refine ⟨(i,x) ::tm,h1,fun t v hv=>?_⟩
   simp only [xa] at hv
   split at hv
   ·rename_i e;subst e;cases hv;simp
   ·obtain ⟨g1,g2⟩:=h2 t v hv
    refine ⟨by omega,?_⟩
    have:t-i=(t-(i+1))+1:=by omega
    rw [this,List.getElem?_cons_succ];exact g2
theorem z0v (hΓ:CtxOK P Γ) (hm:P.follows .mixedOrders=true) {f:FuncId} {fn:Func} {c:Code} (hf:P.funcs[f]?=some fn) (hb:fn.body=some c)
    (hnt:fn.ntmps=Γ.nt) {D:List (Nat×List PStep)} {args:List SV} {hp:List Blk} {K:SV→List Blk→Prop} (hl:args.length≤Γ.nt)
    (hv:zxt Γ D c fn.results.toList args hp K) {ρ:Nat→Nat} {w:World} (hE: ∀w',Ext (zgv ρ hp) w w'→Γ.E w') (hr:HpRel ρ hp w) (hargs:okL (· <hp.length) args):
    Calls P f (xe ρ args).toArray w fun e w'=> ∃r ρ' hp',e= .returned (r.den ρ')∧z23 K ρ hp w r ρ' hp' w':=by
  refine calls_of_wp hf hb ?_
  unfold zxt at hv
  obtain ⟨tm,hv,htm⟩:=zvt hv
  have hv:=zew hv
  have hsz:((xe ρ args).toArray).size=args.length:=by rw [List.size_toArray,zmm]
  have ht:TmRel Γ.nt ρ hp.length tm {tmps:=(xe ρ args).toArray++Array.replicate (fn.ntmps-(xe ρ args).toArray.size) undef,defers:= []}:=by
    refine ⟨?_,rfl,fun t v hlk=>?_⟩
    ·simp only [Array.size_append,Array.size_replicate,hsz,hnt];omega
    ·obtain ⟨_,h2⟩:=htm t v hlk
     rw [Nat.sub_zero] at h2
     refine ⟨zsq hargs h2,?_⟩
     have hden:=zp1 (ρ:=ρ) h2
     have hlt:t<(xe ρ args).toArray.size:=by rw [hsz];exact (List.getElem?_eq_some_iff.1 h2).1
     rw [Array.getElem?_append_left hlt]
     simpa using hden
  have fin: ∀(st:St) (a:Act) (w':World),(match st with|⟨tm',hp'⟩=>zt7 Γ tm' hp' fn.results.toList fun vs=>z3r vs fun r=>zci hp.length r hp' K)→Rel Γ ρ hp w st a w'→
   a.defers= []∧ ∃v,(results fn a.tmps).run P w'= .ok v w'∧ ∃r ρ' hp',Ending.returned v= .returned (r.den ρ')∧z23 K ρ hp w r ρ' hp' w':=by
    rintro ⟨tm',hp'⟩ a w' hst ⟨ρ1,ht1,S1⟩
    obtain ⟨vs,h1,h2,h3⟩:=zye hΓ S1.rel ht1 hst
    obtain ⟨r,h4,h5,h6⟩:=yfp (ρ:=ρ1) h1 h2
    obtain ⟨gl,r',hp2,h7⟩:=z9r h4
    let b:Act:={tmps:= #[r.den ρ1],defers:= []}
    have htb:TmRel 1 ρ1 hp'.length [(0,r)] b:=⟨rfl,rfl,fun t v hv=>by
      simp only [xa] at hv
      split at hv
      ·rename_i e;subst e;cases hv;exact ⟨h5,rfl⟩
      ·cases hv⟩
    obtain ⟨h8,htb',S2,h9⟩:=zzf (Γ:={Γ with nt:=1}) h7 htb S1
    obtain ⟨h10,h11⟩:=h9 0 r' rfl
    have hr':r=r'.ren (fwd gl 0):=by
      simp only [xa] at h11
      exact Option.some.inj h11
    refine ⟨ht1.defers,r.den ρ1,?_,r',_,hp2,?_,h8,h10,S2⟩
    ·rw [zve h3,h6]
    ·rw [hr',SV.den_ren]
  refine zzk hΓ hE hm c hv ht (Step.refl hr) (fun st a w' hst hrel=>?_) (fun id st a w' hst hrel=>hst.elim) (fun st a w' hst hrel=>?_)
  ·exact fin st a w' hst hrel
  ·exact fin st a w' hst hrel
theorem z6y (hΓ:CtxOK P Γ) (hE: ∀w,Γ.E w) (hm:P.follows .mixedOrders=true) {f:FuncId} {fn:Func} {c:Code} (hf:P.funcs[f]?=some fn) (hb:fn.body=some c) (hcall: ∀args w,(callFunc f args).run P w= .ok (.enter f args) w)
    (hnt:fn.ntmps=Γ.nt) {D:List (Nat×List PStep)} {S:Spec} (hlen: ∀args hp K,S args hp K→args.length≤Γ.nt)
    (h: ∀args hp K,S args hp K→zxt Γ D c fn.results.toList args hp K):zp P f S:=by
  intro args hp K hS ρ w hr hargs
  exact .inr ⟨hcall _ _,z0v hΓ hm hf hb hnt (hlen _ _ _ hS) (h _ _ _ hS) (fun w' _=>hE w') hr hargs⟩
theorem zv5 {α:Type} {g g':α→Prop} (hg: ∀b,g b→g' b): ∀{l:List α} {i:Nat},zfb l i g→zfb l i g'
  | [],_,h=>h
  |_ ::_,0,h=>hg _ h
  |_ ::xs,i+1,h=>zv5 hg (l:=xs) (i:=i) h
theorem zmk {α:Type} {g g':α→Prop} (hg: ∀b,g b→g' b): ∀{l:List (Nat×α)} {i:Nat},yn l i g→yn l i g'
  | [],_,h=>h
  |(j,v) ::xs,i,h=>by
   simp only [yn] at h ⊢
   split
   ·rename_i e;rw [e] at h;exact hg _ h
   ·rename_i e;rw [e] at h;exact zmk hg h
theorem zid {gl:List Nat} {n:Nat} {hp:List Blk} {p q:Prop} (f:p→q): ∀{gs:List Nat} {bs:List Blk},zmp gl n hp gs bs p→zmp gl n hp gs bs q
  | [],_,h=>f h
  |_ ::_,[],h=>f h
  |g ::gs,b ::bs,h=>by
   cases b with
   |dead=>exact zid f (gs:=gs) (bs:=bs) h
   |mk el ps=>
    simp only [zmp] at h ⊢
    split
    ·rename_i e
     rw [e] at h
     refine zv5 (fun b' hb=>?_) h
     cases b' with
     |dead=>exact hb
     |mk el' qs=>
      obtain ⟨h1,h2⟩:=zmb hb
      dsimp only
      rw [h1]
      exact zb (zid f h2)
    ·rename_i e;rw [e] at h;exact h
theorem zsi {gl:List Nat} {n:Nat} {tm:List (Nat×SV)} {p q:Prop} (f:p→q): ∀{r:List (Nat×SV)},zgl gl n tm r p→zgl gl n tm r q
  | [],h=>f h
  |(t,v) ::r,h=>by
   simp only [zgl] at h ⊢
   split
   ·rename_i e
    rw [e] at h
    refine zmk (fun u hu=>?_) h
    obtain ⟨h1,h2⟩:=zmb hu
    rw [h1]
    exact zb (zsi f h2)
   ·rename_i e;rw [e] at h;exact h
theorem z4f {n0:Nat} {gl:List Nat} {tm tm':List (Nat×SV)} {hp hp':List Blk} {p q:Prop} (h:xt n0 gl tm hp tm' hp' p) (f:p→q):xt n0 gl tm hp tm' hp' q:=by
  unfold xt at h ⊢
  split
  ·rename_i e1 e2 e3
   rw [e1,e2,e3] at h
   dsimp only at h
   rw [zsz] at h ⊢
   exact zid (zsi f) h
  ·rename_i hn
   split at h
   ·rename_i e1 e2 e3;exact (hn e1 e2 e3).elim
   ·exact h
theorem y5 {n0:Nat} {r r':SV} {hp hp':List Blk} {K:SV→List Blk→Prop} (gl:List Nat) (hk:K r' hp') (h:xt n0 gl [(0,r)] hp [(0,r')] hp' True):zci n0 r hp K:=
  ya7 gl r' hp' (z4f h fun _=>hk)
theorem zt {n0:Nat} {f:St→(St→Prop)→Prop} {st:St} (ι:Type) (I:ι→St) (μ:ι→Nat) (i:ι) (gl:List Nat) (h0:xt n0 gl st.tm st.hp (I i).tm (I i).hp True)
    (h: ∀i,f (I i) fun st'=> ∃j gl,μ j<μ i∧xt n0 gl st'.tm st'.hp (I j).tm (I j).hp True):zh9 n0 f st:=ydh ι I μ i gl h0 h
theorem yh {t:TypeId} {i:TypeInfo} (h: ∀w,(typeInfo t).run P w= .ok i w):P.info? t=some i:=by
  have h:Sem.run P (match P.info? t with|some i=>(pure i:Sem TypeInfo)|none=>stuck "no such type") default= .ok i default:=h default
  cases e:P.info? t with
  |none=>rw [e] at h;cases h
  |some j=>rw [e] at h;simp only [Sem.run_pure] at h;cases h;rfl
end
theorem zi {P:Program}: ∀f S,xa ([]:List (Nat×Spec)) f=some S→zp P f S:=fun f S h=>by cases h
theorem zc {P:Program} {g:FuncId} {T:Spec} {l:List (Nat×Spec)} (h:zp P g T) (hl: ∀f S,xa l f=some S→zp P f S):
    ∀f S,xa ((g,T) ::l) f=some S→zp P f S:=by
  intro f S hf
  simp only [xa] at hf
  split at hf
  ·rename_i e;subst e;cases hf;exact h
  ·exact hl f S hf
theorem zat {P:Program}: ∀t i,xa ([]:List (Nat×TyI)) t=some i→yx P t i:=fun t i h=>by cases h
theorem ze {P:Program} {g:TypeId} {T:TyI} {l:List (Nat×TyI)} (h:yx P g T) (hl: ∀t i,xa l t=some i→yx P t i):
    ∀t i,xa ((g,T) ::l) t=some i→yx P t i:=by
  intro f S hf
  simp only [xa] at hf
  split at hf
  ·rename_i e;subst e;cases hf;exact h
  ·exact hl f S hf
def ctx (ty:List (Nat×TyI)) (nt:Nat) (fn:List (Nat×Spec)):Ctx:={nt:=nt,ty:=ty,fn:=fn}
theorem yg1 {P:Program} {ty:List (Nat×TyI)} {nt:Nat} {fn:List (Nat×Spec)} (ht: ∀t i,xa ty t=some i→yx P t i) (hf: ∀f S,xa fn f=some S→zp P f S):CtxOK P (ctx ty nt fn):=
  ⟨ht,hf,fun _ _ _ h=>h.elim⟩
theorem zm {P:Program} {ty:List (Nat×TyI)} {fs:List (Nat×Spec)} (ht: ∀t i,xa ty t=some i→yx P t i) (hfs: ∀f S,xa fs f=some S→zp P f S)
    (hm:P.follows .mixedOrders=true) {f:FuncId} {fn:Func} {c:Code} (hf:P.funcs[f]?=some fn) (hb:fn.body=some c) (hcall: ∀args w,(callFunc f args).run P w= .ok (.enter f args) w)
    {D:List (Nat×List PStep)} {S:Spec} (hlen: ∀args hp K,S args hp K→args.length≤fn.ntmps)
    (h: ∀args hp K,S args hp K→zxt (ctx ty fn.ntmps fs) D c fn.results.toList args hp K):zp P f S:=
  z6y (Γ:=ctx ty fn.ntmps fs) (yg1 ht hfs) (fun _=>trivial) hm hf hb hcall rfl hlen h
end Go.Sym
