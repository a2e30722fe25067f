/-
  The symbolic engine, part 26: functions. No program in sight; no condition beyond each lemma's own.
-/
import Derived.Test.YtmmpgjcpielefaaGreatGLStreamActs10
set_option linter.unusedSimpArgs false
set_option linter.unusedVariables false
namespace Go.Sym
section
variable {P:Program} {Γ:Ctx} {ρ0:Nat→Nat} {hp0:List Blk} {w0:World}
variable {a:Act} {w:World} {tm:List (Nat×SV)} {hp:List Blk} {ρ:Nat→Nat}
def zg1 (a:Act):ResultVar→Sem Value
  | .tmp t=>pure (a.tmps.getD t undef)
  | .cell c t=>do loadVar t (←asAddr (a.tmps.getD c undef))
theorem zzb (hΓ:CtxOK P Γ) (hr:HpRel ρ hp w) (ht:TmRel Γ.nt ρ hp.length tm a): ∀{rs:List ResultVar} {k:List SV→Prop},zsx Γ tm hp rs k→
    ∃vs,k vs∧okL (· <hp.length) vs∧(rs.mapM (zg1 a)).run P w= .ok (xf ρ vs) w
  | [],k,h=>⟨[],h,trivial,by simp [xf,Sem.run_pure]⟩
  | .tmp t ::rs,k,h=>by
    simp only [zsx] at h
    obtain ⟨v,hv,h⟩:=yd h
    obtain ⟨vs,h1,h2,h3⟩:=zzb hΓ hr ht h
    obtain ⟨g1,g2⟩:=ht.val t v hv
    refine ⟨v ::vs,h1,⟨g1,h2⟩,?_⟩
    have:a.tmps.getD t undef=v.den ρ:=by simp [g2]
    rw [List.mapM_cons]
    simp only [zg1,this,Sem.run_bind,Sem.run_pure,Result.andThen_ok,h3,xf]
  | .cell c t ::rs,k,h=>by
    simp only [zsx] at h
    obtain ⟨ti,hti,h⟩:=yd h
    obtain ⟨v,hv,h⟩:=yd h
    obtain ⟨g1,g2⟩:=ht.val c v hv
    split at h
    ·rename_i q j b oo
     obtain ⟨el,ps,hk,h⟩:=zch h
     obtain ⟨hok,_⟩:=hr.mem q el ps hk
     obtain ⟨u,h,hu,hl⟩:=zkn (ρ:=ρ) hok h
     obtain ⟨vs,h1,h2,h3⟩:=zzb hΓ hr ht h
     refine ⟨u ::vs,h1,⟨hu,h2⟩,?_⟩
     have:a.tmps.getD c undef= .pointer (some ⟨ρ q,b+off oo,none⟩):=by simp [g2,SV.den]
     rw [List.mapM_cons]
     have hload:=zfz (P:=P) (hΓ.ty t ti hti) (fun i=>hr.cell hk i) hl
     simp only [zg1,this,Sem.run_bind,asAddr,Sem.run_pure,Result.andThen_ok,hload,h3,xf]
    ·exact h.elim
theorem yfb {vs:List SV} {k:SV→Prop} (h:z2d vs k) (hok:okL (· <hp.length) vs): ∃r,k r∧r.ok (· <hp.length)∧r.den ρ=(if h:(xf ρ vs).toArray.size=1 then (xf ρ vs).toArray[0] else .tuple (xf ρ vs).toArray):=by
  unfold z2d at h
  split at h
  ·rename_i v
   exact ⟨v,h,hok.1,by simp [xf]⟩
  ·rename_i hne
   refine ⟨.tup vs,h,hok,?_⟩
   have: ¬(xf ρ vs).toArray.size=1:=by
     rw [List.size_toArray,zme]
     intro h1
     match vs,h1 with
     | [v],_=>exact hne v rfl
   rw [dif_neg this];rfl
theorem zwi {fn:Func} {vs:List SV} (h:(fn.results.toList.mapM (zg1 a)).run P w= .ok (xf ρ vs) w):
    (results fn a.tmps).run P w= .ok (if h:(xf ρ vs).toArray.size=1 then (xf ρ vs).toArray[0] else .tuple (xf ρ vs).toArray) w:=by
  have e2:(fn.results.mapM (zg1 a):Sem (Array Value))=List.toArray <$>fn.results.toList.mapM (zg1 a):=by
    rw [Array.mapM_eq_mapM_toList]
  have e3:(List.toArray <$>fn.results.toList.mapM (zg1 a):Sem (Array Value)).run P w= .ok (xf ρ vs).toArray w:=by
    rw [←bind_pure_comp,Sem.run_bind,h];rfl
  show Sem.run P (fn.results.mapM (zg1 a) >>=fun vs=>pure (if h:vs.size=1 then vs[0] else .tuple vs)) w=_
  rw [Sem.run_bind,e2,e3]
  rfl
theorem zv3: ∀{args:List SV} {i:Nat} {k:List (Nat×SV)→Prop},zth args i k→ ∃tm,k tm∧ ∀t v,y8 tm t=some v→i≤t∧args[t-i]?=some v
  | [],i,k,h=>⟨[],h,fun t v hv=>by cases hv⟩
  |x ::xs,i,k,h=>by
   simp only [zth] at h
   obtain ⟨tm,h1,h2⟩:=zv3 h
   refine ⟨(i,x) ::tm,h1,fun t v hv=>?_⟩
   simp only [y8] at hv
   split at hv
   ·rename_i e;subst e;cases hv;simp
   ·obtain ⟨g1,g2⟩:=h2 t v hv
    refine ⟨by omega,?_⟩
    have:t-i=(t-(i+1))+1:=by omega
    rw [this,List.getElem?_cons_succ];exact g2
theorem zzy (hΓ:CtxOK P Γ) (hm:P.follows .mixedOrders=true) {f:FuncId} {fn:Func} {c:Code} (hf:P.funcs[f]?=some fn) (hb:fn.body=some c)
    (hnt:fn.ntmps=Γ.nt) {D:List (Nat×List PStep)} {args:List SV} {hp:List Blk} {K:SV→List Blk→Prop} (hl:args.length≤Γ.nt)
    (hv:zzl Γ D c fn.results.toList args hp K) {ρ:Nat→Nat} {w:World} (hE: ∀w',Ext (zgq ρ hp) w w'→Γ.E w') (hr:HpRel ρ hp w) (hargs:okL (· <hp.length) args):
    Calls P f (xf ρ args).toArray w fun e w'=> ∃r ρ' hp',e= .returned (r.den ρ')∧z30 K ρ hp w r ρ' hp' w':=by
  refine calls_of_wp hf hb ?_
  unfold zzl at hv
  obtain ⟨tm,hv,htm⟩:=zv3 hv
  have hv:=zev hv
  have hsz:((xf ρ args).toArray).size=args.length:=by rw [List.size_toArray,zme]
  have ht:TmRel Γ.nt ρ hp.length tm {tmps:=(xf ρ args).toArray++Array.replicate (fn.ntmps-(xf ρ args).toArray.size) undef,defers:= []}:=by
    refine ⟨?_,rfl,fun t v hlk=>?_⟩
    ·simp only [Array.size_append,Array.size_replicate,hsz,hnt];omega
    ·obtain ⟨_,h2⟩:=htm t v hlk
     rw [Nat.sub_zero] at h2
     refine ⟨zul hargs h2,?_⟩
     have hden:=zpl (ρ:=ρ) h2
     have hlt:t<(xf ρ args).toArray.size:=by rw [hsz];exact (List.getElem?_eq_some_iff.1 h2).1
     rw [Array.getElem?_append_left hlt]
     simpa using hden
  have fin: ∀(st:St) (a:Act) (w':World),(match st with|⟨tm',hp'⟩=>zsx Γ tm' hp' fn.results.toList fun vs=>z2d vs fun r=>zb7 hp.length r hp' K)→Rel Γ ρ hp w st a w'→
   a.defers= []∧ ∃v,(results fn a.tmps).run P w'= .ok v w'∧ ∃r ρ' hp',Ending.returned v= .returned (r.den ρ')∧z30 K ρ hp w r ρ' hp' w':=by
    rintro ⟨tm',hp'⟩ a w' hst ⟨ρ1,ht1,S1⟩
    obtain ⟨vs,h1,h2,h3⟩:=zzb hΓ S1.rel ht1 hst
    obtain ⟨r,h4,h5,h6⟩:=yfb (ρ:=ρ1) h1 h2
    obtain ⟨gl,r',hp2,h7⟩:=ycp h4
    let b:Act:={tmps:= #[r.den ρ1],defers:= []}
    have htb:TmRel 1 ρ1 hp'.length [(0,r)] b:=⟨rfl,rfl,fun t v hv=>by
      simp only [y8] at hv
      split at hv
      ·rename_i e;subst e;cases hv;exact ⟨h5,rfl⟩
      ·cases hv⟩
    obtain ⟨h8,htb',S2,h9⟩:=zyk (Γ:={Γ with nt:=1}) h7 htb S1
    obtain ⟨h10,h11⟩:=h9 0 r' rfl
    have hr':r=r'.ren (fwd gl 0):=by
      simp only [y8] at h11
      exact Option.some.inj h11
    refine ⟨ht1.defers,r.den ρ1,?_,r',_,hp2,?_,h8,h10,S2⟩
    ·rw [zwi h3,h6]
    ·rw [hr',SV.den_ren]
  refine zyn hΓ hE hm c hv ht (Step.refl hr) (fun st a w' hst hrel=>?_) (fun id st a w' hst hrel=>hst.elim) (fun st a w' hst hrel=>?_)
  ·exact fin st a w' hst hrel
  ·exact fin st a w' hst hrel
theorem z4h (hΓ:CtxOK P Γ) (hE: ∀w,Γ.E w) (hm:P.follows .mixedOrders=true) {f:FuncId} {fn:Func} {c:Code} (hf:P.funcs[f]?=some fn) (hb:fn.body=some c) (hcall: ∀args w,(callFunc f args).run P w= .ok (.enter f args) w)
    (hnt:fn.ntmps=Γ.nt) {D:List (Nat×List PStep)} {S:Spec} (hlen: ∀args hp K,S args hp K→args.length≤Γ.nt)
    (h: ∀args hp K,S args hp K→zzl Γ D c fn.results.toList args hp K):zp P f S:=by
  intro args hp K hS ρ w hr hargs
  exact .inr ⟨hcall _ _,zzy hΓ hm hf hb hnt (hlen _ _ _ hS) (h _ _ _ hS) (fun w' _=>hE w') hr hargs⟩
theorem zuy {α:Type} {g g':α→Prop} (hg: ∀b,g b→g' b): ∀{l:List α} {i:Nat},zfe l i g→zfe l i g'
  | [],_,h=>h
  |_ ::_,0,h=>hg _ h
  |_ ::xs,i+1,h=>zuy hg (l:=xs) (i:=i) h
theorem zsb {α:Type} {g g':α→Prop} (hg: ∀b,g b→g' b): ∀{l:List (Nat×α)} {i:Nat},yn l i g→yn l i g'
  | [],_,h=>h
  |(j,v) ::xs,i,h=>by
   simp only [yn] at h ⊢
   split
   ·rename_i e;rw [e] at h;exact hg _ h
   ·rename_i e;rw [e] at h;exact zsb hg h
theorem zlh {gl:List Nat} {n:Nat} {hp:List Blk} {p q:Prop} (f:p→q): ∀{gs:List Nat} {bs:List Blk},zmd gl n hp gs bs p→zmd gl n hp gs bs q
  | [],_,h=>f h
  |_ ::_,[],h=>f h
  |g ::gs,b ::bs,h=>by
   cases b with
   |dead=>exact zlh f (gs:=gs) (bs:=bs) h
   |mk el ps=>
    simp only [zmd] at h ⊢
    split
    ·rename_i e
     rw [e] at h
     refine zuy (fun b' hb=>?_) h
     cases b' with
     |dead=>exact hb
     |mk el' qs=>
      obtain ⟨h1,h2⟩:=znf hb
      dsimp only
      rw [h1]
      exact zb (zlh f h2)
    ·rename_i e;rw [e] at h;exact h
theorem zr3 {gl:List Nat} {n:Nat} {tm:List (Nat×SV)} {p q:Prop} (f:p→q): ∀{r:List (Nat×SV)},zof gl n tm r p→zof gl n tm r q
  | [],h=>f h
  |(t,v) ::r,h=>by
   simp only [zof] at h ⊢
   split
   ·rename_i e
    rw [e] at h
    refine zsb (fun u hu=>?_) h
    obtain ⟨h1,h2⟩:=znf hu
    rw [h1]
    exact zb (zr3 f h2)
   ·rename_i e;rw [e] at h;exact h
theorem z46 {n0:Nat} {gl:List Nat} {tm tm':List (Nat×SV)} {hp hp':List Blk} {p q:Prop} (h:zdp n0 gl tm hp tm' hp' p) (f:p→q):zdp n0 gl tm hp tm' hp' q:=by
  unfold zdp at h ⊢
  split
  ·rename_i e1 e2 e3
   rw [e1,e2,e3] at h
   dsimp only at h
   rw [z0l] at h ⊢
   exact zlh (zr3 f) h
  ·rename_i hn
   split at h
   ·rename_i e1 e2 e3;exact (hn e1 e2 e3).elim
   ·exact h
theorem yu {n0:Nat} {r r':SV} {hp hp':List Blk} {K:SV→List Blk→Prop} (gl:List Nat) (hk:K r' hp') (h:zdp n0 gl [(0,r)] hp [(0,r')] hp' True):zb7 n0 r hp K:=
  yat gl r' hp' (z46 h fun _=>hk)
theorem zt {n0:Nat} {f:St→(St→Prop)→Prop} {st:St} (ι:Type) (I:ι→St) (μ:ι→Nat) (i:ι) (gl:List Nat) (h0:zdp n0 gl st.tm st.hp (I i).tm (I i).hp True)
    (h: ∀i,f (I i) fun st'=> ∃j gl,μ j<μ i∧zdp n0 gl st'.tm st'.hp (I j).tm (I j).hp True):zg7 n0 f st:=yf3 ι I μ i gl h0 h
theorem yf {t:TypeId} {i:TypeInfo} (h: ∀w,(typeInfo t).run P w= .ok i w):P.info? t=some i:=by
  have h:Sem.run P (match P.info? t with|some i=>(pure i:Sem TypeInfo)|none=>stuck "no such type") default= .ok i default:=h default
  cases e:P.info? t with
  |none=>rw [e] at h;cases h
  |some j=>rw [e] at h;simp only [Sem.run_pure] at h;cases h;rfl
end
theorem zi {P:Program}: ∀f S,y8 ([]:List (Nat×Spec)) f=some S→zp P f S:=fun f S h=>by cases h
theorem zd {P:Program} {g:FuncId} {T:Spec} {l:List (Nat×Spec)} (h:zp P g T) (hl: ∀f S,y8 l f=some S→zp P f S):
    ∀f S,y8 ((g,T) ::l) f=some S→zp P f S:=by
  intro f S hf
  simp only [y8] at hf
  split at hf
  ·rename_i e;subst e;cases hf;exact h
  ·exact hl f S hf
theorem x1 {P:Program}: ∀t i,y8 ([]:List (Nat×TyI)) t=some i→yt P t i:=fun t i h=>by cases h
theorem zc {P:Program} {g:TypeId} {T:TyI} {l:List (Nat×TyI)} (h:yt P g T) (hl: ∀t i,y8 l t=some i→yt P t i):
    ∀t i,y8 ((g,T) ::l) t=some i→yt P t i:=by
  intro f S hf
  simp only [y8] at hf
  split at hf
  ·rename_i e;subst e;cases hf;exact h
  ·exact hl f S hf
def ctx (ty:List (Nat×TyI)) (nt:Nat) (fn:List (Nat×Spec)):Ctx:={nt:=nt,ty:=ty,fn:=fn}
theorem yha {P:Program} {ty:List (Nat×TyI)} {nt:Nat} {fn:List (Nat×Spec)} (ht: ∀t i,y8 ty t=some i→yt P t i) (hf: ∀f S,y8 fn f=some S→zp P f S):CtxOK P (ctx ty nt fn):=
  ⟨ht,hf,fun _ _ _ h=>h.elim⟩
theorem zm {P:Program} {ty:List (Nat×TyI)} {fs:List (Nat×Spec)} (ht: ∀t i,y8 ty t=some i→yt P t i) (hfs: ∀f S,y8 fs f=some S→zp P f S)
    (hm:P.follows .mixedOrders=true) {f:FuncId} {fn:Func} {c:Code} (hf:P.funcs[f]?=some fn) (hb:fn.body=some c) (hcall: ∀args w,(callFunc f args).run P w= .ok (.enter f args) w)
    {D:List (Nat×List PStep)} {S:Spec} (hlen: ∀args hp K,S args hp K→args.length≤fn.ntmps)
    (h: ∀args hp K,S args hp K→zzl (ctx ty fn.ntmps fs) D c fn.results.toList args hp K):zp P f S:=
  z4h (Γ:=ctx ty fn.ntmps fs) (yha ht hfs) (fun _=>trivial) hm hf hb hcall rfl hlen h
end Go.Sym
