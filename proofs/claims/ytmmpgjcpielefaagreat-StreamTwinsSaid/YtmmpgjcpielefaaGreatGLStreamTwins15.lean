/-
  The symbolic engine, part 26: functions. No program in sight; no condition beyond each lemma's own.
-/
import Derived.Test.YtmmpgjcpielefaaGreatGLStreamTwins14
set_option linter.unusedSimpArgs false
set_option linter.unusedVariables false
namespace Go.Sym
section
variable {P:Program} {Γ:Ctx} {ρ0:Nat→Nat} {hp0:List Blk} {w0:World}
variable {a:Act} {w:World} {tm:List (Nat×SV)} {hp:List Blk} {ρ:Nat→Nat}
def zfg (a:Act):ResultVar→Sem Value
  | .tmp t=>pure (a.tmps.getD t undef)
  | .cell c t=>do loadVar t (←asAddr (a.tmps.getD c undef))
theorem zup (hΓ:CtxOK P Γ) (hr:HpRel ρ hp w) (ht:TmRel Γ.nt ρ hp.length tm a): ∀{rs:List ResultVar} {k:List SV→Prop},zrf Γ tm hp rs k→
    ∃vs,k vs∧okL (· <hp.length) vs∧(rs.mapM (zfg a)).run P w= .ok (y4 ρ vs) w
  | [],k,h=>⟨[],h,trivial,by simp [y4,Sem.run_pure]⟩
  | .tmp t ::rs,k,h=>by
    simp only [zrf] at h
    obtain ⟨v,hv,h⟩:=z6 h
    obtain ⟨vs,h1,h2,h3⟩:=zup hΓ hr ht h
    obtain ⟨g1,g2⟩:=ht.val t v hv
    refine ⟨v ::vs,h1,⟨g1,h2⟩,?_⟩
    have:a.tmps.getD t undef=v.den ρ:=by simp [g2]
    rw [List.mapM_cons]
    simp only [zfg,this,Sem.run_bind,Sem.run_pure,Result.andThen_ok,h3,y4]
  | .cell c t ::rs,k,h=>by
    simp only [zrf] at h
    obtain ⟨ti,hti,h⟩:=z6 h
    obtain ⟨v,hv,h⟩:=z6 h
    obtain ⟨g1,g2⟩:=ht.val c v hv
    split at h
    ·rename_i q j b oo
     obtain ⟨el,ps,hk,h⟩:=zbk h
     obtain ⟨hok,_⟩:=hr.mem q el ps hk
     obtain ⟨u,h,hu,hl⟩:=zix (ρ:=ρ) hok h
     obtain ⟨vs,h1,h2,h3⟩:=zup hΓ hr ht h
     refine ⟨u ::vs,h1,⟨hu,h2⟩,?_⟩
     have:a.tmps.getD c undef= .pointer (some ⟨ρ q,b+off oo,none⟩):=by simp [g2,SV.den]
     rw [List.mapM_cons]
     have hload:=zen (P:=P) (hΓ.ty t ti hti) (fun i=>hr.cell hk i) hl
     simp only [zfg,this,Sem.run_bind,asAddr,Sem.run_pure,Result.andThen_ok,hload,h3,y4]
    ·exact h.elim
theorem z8j {vs:List SV} {k:SV→Prop} (h:z19 vs k) (hok:okL (· <hp.length) vs): ∃r,k r∧r.ok (· <hp.length)∧r.den ρ=(if h:(y4 ρ vs).toArray.size=1 then (y4 ρ vs).toArray[0] else .tuple (y4 ρ vs).toArray):=by
  unfold z19 at h
  split at h
  ·rename_i v
   exact ⟨v,h,hok.1,by simp [y4]⟩
  ·rename_i hne
   refine ⟨.tup vs,h,hok,?_⟩
   have: ¬(y4 ρ vs).toArray.size=1:=by
     rw [List.size_toArray,zj9]
     intro h1
     match vs,h1 with
     | [v],_=>exact hne v rfl
   rw [dif_neg this];rfl
theorem zr2 {fn:Func} {vs:List SV} (h:(fn.results.toList.mapM (zfg a)).run P w= .ok (y4 ρ vs) w):
    (results fn a.tmps).run P w= .ok (if h:(y4 ρ vs).toArray.size=1 then (y4 ρ vs).toArray[0] else .tuple (y4 ρ vs).toArray) w:=by
  have e2:(fn.results.mapM (zfg a):Sem (Array Value))=List.toArray <$>fn.results.toList.mapM (zfg a):=by
    rw [Array.mapM_eq_mapM_toList]
  have e3:(List.toArray <$>fn.results.toList.mapM (zfg a):Sem (Array Value)).run P w= .ok (y4 ρ vs).toArray w:=by
    rw [←bind_pure_comp,Sem.run_bind,h];rfl
  show Sem.run P (fn.results.mapM (zfg a) >>=fun vs=>pure (if h:vs.size=1 then vs[0] else .tuple vs)) w=_
  rw [Sem.run_bind,e2,e3]
  rfl
theorem zr6: ∀{args:List SV} {i:Nat} {k:List (Nat×SV)→Prop},zqs args i k→ ∃tm,k tm∧ ∀t v,y3 tm t=some v→i≤t∧args[t-i]?=some v
  | [],i,k,h=>⟨[],h,fun t v hv=>by cases hv⟩
  |x ::xs,i,k,h=>by
   simp only [zqs] at h
   obtain ⟨tm,h1,h2⟩:=zr6 h
   refine ⟨(i,x) ::tm,h1,fun t v hv=>?_⟩
   simp only [y3] at hv
   split at hv
   ·rename_i e;subst e;cases hv;simp
   ·obtain ⟨g1,g2⟩:=h2 t v hv
    refine ⟨by omega,?_⟩
    have:t-i=(t-(i+1))+1:=by omega
    rw [this,List.getElem?_cons_succ];exact g2
theorem zve (hΓ:CtxOK P Γ) (hm:P.follows .mixedOrders=true) {f:FuncId} {fn:Func} {c:Code} (hf:P.funcs[f]?=some fn) (hb:fn.body=some c)
    (hnt:fn.ntmps=Γ.nt) {D:List (Nat×List PStep)} {args:List SV} {hp:List Blk} {K:SV→List Blk→Prop} (hl:args.length≤Γ.nt)
    (hv:zs5 Γ D c fn.results.toList args hp K) {ρ:Nat→Nat} {w:World} (hE: ∀w',Ext (zgf ρ hp) w w'→Γ.E w') (hr:HpRel ρ hp w) (hargs:okL (· <hp.length) args):
    Calls P f (y4 ρ args).toArray w fun e w'=> ∃r ρ' hp',e= .returned (r.den ρ')∧zyo K ρ hp w r ρ' hp' w':=by
  refine calls_of_wp hf hb ?_
  unfold zs5 at hv
  obtain ⟨tm,hv,htm⟩:=zr6 hv
  have hv:=zdh hv
  have hsz:((y4 ρ args).toArray).size=args.length:=by rw [List.size_toArray,zj9]
  have ht:TmRel Γ.nt ρ hp.length tm {tmps:=(y4 ρ args).toArray++Array.replicate (fn.ntmps-(y4 ρ args).toArray.size) undef,defers:= []}:=by
    refine ⟨?_,rfl,fun t v hlk=>?_⟩
    ·simp only [Array.size_append,Array.size_replicate,hsz,hnt];omega
    ·obtain ⟨_,h2⟩:=htm t v hlk
     rw [Nat.sub_zero] at h2
     refine ⟨zq9 hargs h2,?_⟩
     have hden:=zk1 (ρ:=ρ) h2
     have hlt:t<(y4 ρ args).toArray.size:=by rw [hsz];exact (List.getElem?_eq_some_iff.1 h2).1
     rw [Array.getElem?_append_left hlt]
     simpa using hden
  have fin: ∀(st:St) (a:Act) (w':World),(match st with|⟨tm',hp'⟩=>zrf Γ tm' hp' fn.results.toList fun vs=>z19 vs fun r=>zbi hp.length r hp' K)→Rel Γ ρ hp w st a w'→
   a.defers= []∧ ∃v,(results fn a.tmps).run P w'= .ok v w'∧ ∃r ρ' hp',Ending.returned v= .returned (r.den ρ')∧zyo K ρ hp w r ρ' hp' w':=by
    rintro ⟨tm',hp'⟩ a w' hst ⟨ρ1,ht1,S1⟩
    obtain ⟨vs,h1,h2,h3⟩:=zup hΓ S1.rel ht1 hst
    obtain ⟨r,h4,h5,h6⟩:=z8j (ρ:=ρ1) h1 h2
    obtain ⟨gl,r',hp2,h7⟩:=z5n h4
    let b:Act:={tmps:= #[r.den ρ1],defers:= []}
    have htb:TmRel 1 ρ1 hp'.length [(0,r)] b:=⟨rfl,rfl,fun t v hv=>by
      simp only [y3] at hv
      split at hv
      ·rename_i e;subst e;cases hv;exact ⟨h5,rfl⟩
      ·cases hv⟩
    obtain ⟨h8,htb',S2,h9⟩:=zt3 (Γ:={Γ with nt:=1}) h7 htb S1
    obtain ⟨h10,h11⟩:=h9 0 r' rfl
    have hr':r=r'.ren (fwd gl 0):=by
      simp only [y3] at h11
      exact Option.some.inj h11
    refine ⟨ht1.defers,r.den ρ1,?_,r',_,hp2,?_,h8,h10,S2⟩
    ·rw [zr2 h3,h6]
    ·rw [hr',SV.den_ren]
  refine ztm hΓ hE hm c hv ht (Step.refl hr) (fun st a w' hst hrel=>?_) (fun id st a w' hst hrel=>hst.elim) (fun st a w' hst hrel=>?_)
  ·exact fin st a w' hst hrel
  ·exact fin st a w' hst hrel
theorem zzy (hΓ:CtxOK P Γ) (hE: ∀w,Γ.E w) (hm:P.follows .mixedOrders=true) {f:FuncId} {fn:Func} {c:Code} (hf:P.funcs[f]?=some fn) (hb:fn.body=some c) (hcall: ∀args w,(callFunc f args).run P w= .ok (.enter f args) w)
    (hnt:fn.ntmps=Γ.nt) {D:List (Nat×List PStep)} {S:Spec} (hlen: ∀args hp K,S args hp K→args.length≤Γ.nt)
    (h: ∀args hp K,S args hp K→zs5 Γ D c fn.results.toList args hp K):zp P f S:=by
  intro args hp K hS ρ w hr hargs
  exact .inr ⟨hcall _ _,zve hΓ hm hf hb hnt (hlen _ _ _ hS) (h _ _ _ hS) (fun w' _=>hE w') hr hargs⟩
theorem zsb {α:Type} {g g':α→Prop} (hg: ∀b,g b→g' b): ∀{l:List α} {i:Nat},zdi l i g→zdi l i g'
  | [],_,h=>h
  |_ ::_,0,h=>hg _ h
  |_ ::xs,i+1,h=>zsb hg (l:=xs) (i:=i) h
theorem zof {α:Type} {g g':α→Prop} (hg: ∀b,g b→g' b): ∀{l:List (Nat×α)} {i:Nat},yf l i g→yf l i g'
  | [],_,h=>h
  |(j,v) ::xs,i,h=>by
   simp only [yf] at h ⊢
   split
   ·rename_i e;rw [e] at h;exact hg _ h
   ·rename_i e;rw [e] at h;exact zof hg h
theorem zi7 {gl:List Nat} {n:Nat} {hp:List Blk} {p q:Prop} (f:p→q): ∀{gs:List Nat} {bs:List Blk},zj7 gl n hp gs bs p→zj7 gl n hp gs bs q
  | [],_,h=>f h
  |_ ::_,[],h=>f h
  |g ::gs,b ::bs,h=>by
   cases b with
   |dead=>exact zi7 f (gs:=gs) (bs:=bs) h
   |mk el ps=>
    simp only [zj7] at h ⊢
    split
    ·rename_i e
     rw [e] at h
     refine zsb (fun b' hb=>?_) h
     cases b' with
     |dead=>exact hb
     |mk el' qs=>
      obtain ⟨h1,h2⟩:=zlf hb
      dsimp only
      rw [h1]
      exact zb (zi7 f h2)
    ·rename_i e;rw [e] at h;exact h
theorem zod {gl:List Nat} {n:Nat} {tm:List (Nat×SV)} {p q:Prop} (f:p→q): ∀{r:List (Nat×SV)},zm6 gl n tm r p→zm6 gl n tm r q
  | [],h=>f h
  |(t,v) ::r,h=>by
   simp only [zm6] at h ⊢
   split
   ·rename_i e
    rw [e] at h
    refine zof (fun u hu=>?_) h
    obtain ⟨h1,h2⟩:=zlf hu
    rw [h1]
    exact zb (zod f h2)
   ·rename_i e;rw [e] at h;exact h
theorem z0d {n0:Nat} {gl:List Nat} {tm tm':List (Nat×SV)} {hp hp':List Blk} {p q:Prop} (h:zde n0 gl tm hp tm' hp' p) (f:p→q):zde n0 gl tm hp tm' hp' q:=by
  unfold zde at h ⊢
  split
  ·rename_i e1 e2 e3
   rw [e1,e2,e3] at h
   dsimp only at h
   rw [zvp] at h ⊢
   exact zi7 (zod f) h
  ·rename_i hn
   split at h
   ·rename_i e1 e2 e3;exact (hn e1 e2 e3).elim
   ·exact h
theorem yv {n0:Nat} {r r':SV} {hp hp':List Blk} {K:SV→List Blk→Prop} (gl:List Nat) (hk:K r' hp') (h:zde n0 gl [(0,r)] hp [(0,r')] hp' True):zbi n0 r hp K:=
  z33 gl r' hp' (z0d h fun _=>hk)
theorem zz {n0:Nat} {f:St→(St→Prop)→Prop} {st:St} (ι:Type) (I:ι→St) (μ:ι→Nat) (i:ι) (gl:List Nat) (h0:zde n0 gl st.tm st.hp (I i).tm (I i).hp True)
    (h: ∀i,f (I i) fun st'=> ∃j gl,μ j<μ i∧zde n0 gl st'.tm st'.hp (I j).tm (I j).hp True):zdg n0 f st:=z69 ι I μ i gl h0 h
theorem z9 {t:TypeId} {i:TypeInfo} (h: ∀w,(typeInfo t).run P w= .ok i w):P.info? t=some i:=by
  have h:Sem.run P (match P.info? t with|some i=>(pure i:Sem TypeInfo)|none=>stuck "no such type") default= .ok i default:=h default
  cases e:P.info? t with
  |none=>rw [e] at h;cases h
  |some j=>rw [e] at h;simp only [Sem.run_pure] at h;cases h;rfl
end
theorem zl {P:Program}: ∀f S,y3 ([]:List (Nat×Spec)) f=some S→zp P f S:=fun f S h=>by cases h
theorem zd {P:Program} {g:FuncId} {T:Spec} {l:List (Nat×Spec)} (h:zp P g T) (hl: ∀f S,y3 l f=some S→zp P f S):
    ∀f S,y3 ((g,T) ::l) f=some S→zp P f S:=by
  intro f S hf
  simp only [y3] at hf
  split at hf
  ·rename_i e;subst e;cases hf;exact h
  ·exact hl f S hf
theorem x1 {P:Program}: ∀t i,y3 ([]:List (Nat×TyI)) t=some i→yp P t i:=fun t i h=>by cases h
theorem zc {P:Program} {g:TypeId} {T:TyI} {l:List (Nat×TyI)} (h:yp P g T) (hl: ∀t i,y3 l t=some i→yp P t i):
    ∀t i,y3 ((g,T) ::l) t=some i→yp P t i:=by
  intro f S hf
  simp only [y3] at hf
  split at hf
  ·rename_i e;subst e;cases hf;exact h
  ·exact hl f S hf
def ctx (ty:List (Nat×TyI)) (nt:Nat) (fn:List (Nat×Spec)):Ctx:={nt:=nt,ty:=ty,fn:=fn}
theorem yby {P:Program} {ty:List (Nat×TyI)} {nt:Nat} {fn:List (Nat×Spec)} (ht: ∀t i,y3 ty t=some i→yp P t i) (hf: ∀f S,y3 fn f=some S→zp P f S):CtxOK P (ctx ty nt fn):=
  ⟨ht,hf,fun _ _ _ h=>h.elim⟩
theorem zn {P:Program} {ty:List (Nat×TyI)} {fs:List (Nat×Spec)} (ht: ∀t i,y3 ty t=some i→yp P t i) (hfs: ∀f S,y3 fs f=some S→zp P f S)
    (hm:P.follows .mixedOrders=true) {f:FuncId} {fn:Func} {c:Code} (hf:P.funcs[f]?=some fn) (hb:fn.body=some c) (hcall: ∀args w,(callFunc f args).run P w= .ok (.enter f args) w)
    {D:List (Nat×List PStep)} {S:Spec} (hlen: ∀args hp K,S args hp K→args.length≤fn.ntmps)
    (h: ∀args hp K,S args hp K→zs5 (ctx ty fn.ntmps fs) D c fn.results.toList args hp K):zp P f S:=
  zzy (Γ:=ctx ty fn.ntmps fs) (yby ht hfs) (fun _=>trivial) hm hf hb hcall rfl hlen h
end Go.Sym
