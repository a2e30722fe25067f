/-
  Contracts of functions of the program, each said of symbolic values, and plain laws; no condition beyond each statement's own.
-/
import Derived.Test.YtmmpgjcpielefaaGreatGLStreamTwins13
set_option linter.unusedSimpArgs false
set_option linter.unusedVariables false
namespace Go.Sym
section
variable {P:Program} {Γ:Ctx} {ops:Array Oper} {Q:Exit→Act→World→Prop} {K:St→Prop} {ρ0:Nat→Nat} {hp0:List Blk} {w0:World}
variable {listed:Array Bool} {a:Act} {w:World} {pre ss:List PStep} {s:PStep} {late:List Late} {tm:List (Nat×SV)} {hp:List Blk} {ρ:Nat→Nat} {tmR:List (Nat×SV)}
theorem zoq: ∀{xs:List Late} {tm tm':List (Nat×SV)} {a:Act},xz P Γ ops hp tm xs tm'→TmRel Γ.nt ρ hp.length tm a→ ∃a',TmRel Γ.nt ρ hp.length tm' a'
  | [],_,_,a,h,ht=>⟨a,ht.same fun t=>(h t).symm⟩
  |_ ::_,_,_,_,⟨_,h2,h3,h4⟩,ht=>zoq h4 (ht.put h3 h2)
theorem TmRel.any {nt n:Nat} (h:TmRel nt ρ n tm a) (ρ':Nat→Nat): ∃a',TmRel nt ρ' n tm a':=by
  refine ⟨{a with tmps:=(Array.range nt).map fun t=>((y3 tm t).map (SV.den ρ')).getD undef},by simp,h.defers,fun t v hv=>⟨(h.val t v hv).1,?_⟩⟩
  have ht:t<nt:=by
    have:=(Array.getElem?_eq_some_iff.1 (h.val t v hv).2).1
    rwa [h.size] at this
  simp [ht,hv]
def zwo (w:World) (hp:List Blk):World:={w with heap:=(hp.map fun b=>match b with
  | .mk el ps=>Obj.cells (zq id ps).toArray el (0,0)
  | .dead=>Obj.cells #[] 0 (0,0)).toArray}
theorem zsm (hok: ∀(k:Nat) el ps,hp[k]?=some (Blk.mk el ps)→okL (· <hp.length) ps):HpRel id hp (zwo w hp):=
  ⟨fun k el ps hk=>⟨hok k el ps hk,el,(0,0),by simp [zwo,hk],.inl (Nat.le_refl _)⟩,fun _ _ _ _ _ _ _ _ h=>h⟩
theorem Inv.saturate (hΓ:CtxOK P Γ): ∀{ss:List PStep} {pre:List PStep} {late:List Late} {tm:List (Nat×SV)} {hp:List Blk},Inv P Γ ops K ρ0 hp0 w0 listed a w pre ss late tm hp ρ tmR→
    ∃pre' ss' late' tm' hp',pre'.reverse++ss'=pre.reverse++ss∧Inv P Γ ops K ρ0 hp0 w0 listed a w pre' ss' late' tm' hp' ρ tmR∧(ss'= []∨ ∃s ss'' o T',ss'=s ::ss''∧StepOK Γ ops pre' s ss'' o∧zey ops T'∧zdj ops Γ (s ::pre') ss'' T'=true∧
     za1 Γ o.op= .anchor∧zg4 Γ ops hp'.length o tm'∧zl3 Γ ops.toList s ss'' o late' tm' hp' K)
  | [],pre,late,tm,hp,I=>⟨pre,[],late,tm,hp,rfl,I,.inl rfl⟩
  |s ::ss,pre,late,tm,hp,I=>by
   obtain ⟨T,hT,hpl⟩:=I.plan
   obtain ⟨o,T',S,hT',hpl'⟩:=z41 hT hpl
   have hvc:=I.vc
   rw [zxm] at hvc
   obtain ⟨o',ho',hvc⟩:=zch hvc
   have:o'=o:=by
     have:=S.get
     rw [←Array.getElem?_toList,ho'] at this
     exact Option.some.inj this
   subst this
   obtain ⟨htm,hxs⟩:=zik I.chain I.tmr.okay
   obtain ⟨a1,ha1⟩:=zoq I.chain I.tmr
   have again: ∀{late':List Late} {tm':List (Nat×SV)} {hp':List Blk},Inv P Γ ops K ρ0 hp0 w0 listed a w (s ::pre) ss late' tm' hp' ρ tmR→
    ∃pre' ss' late' tm' hp',pre'.reverse++ss'=pre.reverse++(s ::ss)∧Inv P Γ ops K ρ0 hp0 w0 listed a w pre' ss' late' tm' hp' ρ tmR∧(ss'= []∨ ∃s ss'' o T',ss'=s ::ss''∧StepOK Γ ops pre' s ss'' o∧zey ops T'∧zdj ops Γ (s ::pre') ss'' T'=true∧
     za1 Γ o.op= .anchor∧zg4 Γ ops hp'.length o tm'∧zl3 Γ ops.toList s ss'' o late' tm' hp' K):=fun J=>by
     obtain ⟨p,q,l,t,h,e,r⟩:=J.saturate hΓ
     exact ⟨p,q,l,t,h,by rw [e];simp,r⟩
   rcases zsf (Γ:=Γ) (n:=hp.length) hvc with ⟨hw,hy⟩|⟨hw,hn⟩
   ·cases hk:za1 Γ o'.op with
    |anchor=>
     rw [hk] at hy
     exact ⟨pre,s ::ss,late,tm,hp,rfl,I,.inr ⟨s,ss,o',T',rfl,S,hT',hpl',hk,hw,hy⟩⟩
    |pure=>
     rw [hk] at hy
     dsimp only at hy
     obtain ⟨v,h1,h2⟩:=z5w o'.op tm _ hy
     have h3:=zb5 h1
     obtain ⟨u,hu,hv,_⟩:=zoy (P:=P) hΓ ha1 o' (h2 (fun u=>u=v) rfl)
     subst hu
     obtain ⟨hvM,h4⟩:=zkq hv h3
     obtain ⟨hd,h5⟩:=zc8 h4
     refine again (I.absorb S hT' hpl' (v:=u) (k:= .pure) (fun b h=>by cases h) (fun M h=>by cases h) (fun ρ a ht=> .inl ⟨hw ρ a ht,?_⟩) hv hvM hd h5)
     obtain ⟨x,hx,_,hr⟩:=zoy (P:=P) hΓ ht o' (h2 (fun x=>x=u) rfl)
     subst hx
     exact hr
    |read=>
     rw [hk] at hy
     dsimp only at hy
     have h0:=zkk (zb5 hy)
     obtain ⟨v,h1,h2⟩:=zww o'.op tm (mask (zah s.loose late) hp) _ h0
     have hokm: ∀(k:Nat) el ps,(mask (zah s.loose late) hp)[k]?=some (Blk.mk el ps)→okL (· <(mask (zah s.loose late) hp).length) ps:=fun k el ps hk=>by
       rw [ya];exact I.hpok k el ps (y5.1 hk).2
     obtain ⟨a2,ha2⟩:=ha1.any id
     obtain ⟨u,hu,hv,_⟩:=zki (P:=P) hΓ (zsm (w:=w) hokm) (by rw [ya];exact ha2) o' (h2 (fun u=>u=v) rfl)
     subst hu
     rw [ya] at hv
     obtain ⟨hvM,h4⟩:=zkq hv h1
     obtain ⟨hd,h5⟩:=zc8 h4
     refine again (I.absorb S hT' hpl' (v:=u) (k:= .read (zah s.loose late)) (fun b h=>by cases h) (fun M h=>by cases h;exact ⟨hk,rfl⟩) ⟨hw,fun ρ a w ht hwr hE=>?_⟩ hv hvM hd h5)
     obtain ⟨x,hx,_,hr⟩:=zki (P:=P) hΓ hwr (by rw [ya];exact ht) o' (h2 (fun x=>x=u) rfl)
     subst hx
     exact hr hE
    |maker=>
     rw [hk] at hy
     dsimp only at hy
     have h0:=zdh (zb5 hy)
     obtain ⟨⟨v,b⟩,h1,h2⟩:=z2d o'.op tm hp.length (fun p:SV×Blk=>match p.2 with
       | .mk el ps=>zdy (zah s.loose late) (.agg ps) (ze0 hp (.mk el ps) fun hp1=>zcw Γ.nt tm hp1 o'.dst p.1 fun st=>match st with|⟨tm',hp'⟩=>zd0 Γ ops.toList ss (⟨s.i,o',p.1,.maker hp.length⟩ ::addM hp.length late) tm' hp' K)
       | .dead=>False) h0
     cases b with
     |dead=>exact h1.elim
     |mk el ps=>
      dsimp only at h1
      have key: ∀(ρ:Nat→Nat) a,TmRel Γ.nt ρ hp.length tm a→v.ok (· =hp.length)∧okL (· <hp.length) ps∧ ∀(ρ1:Nat→Nat) w,ρ1 hp.length=w.heap.size→(execOp a.eval o').run P w= .ok (.value (v.den ρ1)) (w.alloc (.cells (zq ρ ps).toArray el)):=fun ρ a ht=>by
        obtain ⟨u,el',qs,hu,hv,hq,hr⟩:=zsl (P:=P) hΓ ht o' (h2 (fun p=>p=(v,.mk el ps)) rfl)
        cases hu
        exact ⟨hv,hq,hr⟩
      obtain ⟨hv,hq,_⟩:=key ρ a1 ha1
      obtain ⟨hvM,h4⟩:=zkq (v:= .agg ps) hq h1
      have h5:=zby h4
      obtain ⟨hd,h6⟩:=zc8 h5
      exact again (I.absorbM S hT' hpl' hw hv hq (fun ρ a ht=>(key ρ a ht).2.2) hvM hd h6)
   ·obtain ⟨hd,h5⟩:=zc8 hn
    exact again (I.absorb S hT' hpl' (v:= .tup []) (k:= .pure) (fun b h=>by cases h) (fun M h=>by cases h) (fun ρ a ht=> .inr ⟨hw ρ a ht,rfl⟩) (by simp [SV.ok,okL]) (by simp [SV.ok,okL]) hd h5)
def unl (listed:Array Bool) (n:Nat):Nat:=(List.range n).countP fun i=>!listed.getD i false
theorem znz {p q:Nat→Bool}: ∀{l:List Nat} {i:Nat},(∀x,q x=true→p x=true)→i∈l→p i=true→q i=false→l.countP q<l.countP p
  |x ::xs,i,h,hi,hp,hq=>by
   have hle:xs.countP q≤xs.countP p:=List.countP_mono_left fun x _ hx=>h x hx
   rw [List.countP_cons,List.countP_cons]
   rcases List.mem_cons.1 hi with rfl|hi
   ·rw [hp,hq];simp;omega
   ·have:=znz h hi hp hq
    cases hqx:q x with
    |true=>rw [h x hqx];simp;omega
    |false=>cases p x<;>simp<;>omega
theorem z5h {i:Nat} (hi:i<ops.size) (hs:listed.size=ops.size) (hu:listed.getD i false=false):unl (listed.setIfInBounds i true) ops.size<unl listed ops.size:=by
  refine znz (i:=i) (fun x hx=>?_) (List.mem_range.2 hi) (by rw [hu];rfl) ?_
  ·cases h:listed.getD x false with
   |false=>rfl
   |true=>
    rw [(zbn (by rw [hs];exact hi)).2 (.inr h)] at hx;cases hx
  ·rw [(zbn (by rw [hs];exact hi)).2 (.inl rfl)];rfl
theorem zqq (hs:listed.size=ops.size) {i:Nat} (hi:i<ops.size):listed.getD i true=listed.getD i false:=by
  have:i<listed.size:=by rw [hs];exact hi
  simp [this]
theorem Inv.any (hΓ:CtxOK P Γ) (hE: ∀w',Ext (zgf ρ0 hp0) w0 w'→Γ.E w') (order:List PStep) (hall: ∀i<ops.size,∃p∈order,p.i=i) (hord: ∀(l r:List PStep) p,order=l++p ::r→ ∃o,ops[p.i]?=some o∧ ∀e∈xk o,∃x∈l,x.i=e)
    (hQ: ∀a' w' ρ' tm' hp',K ⟨tm',hp'⟩→TmRel Γ.nt ρ' hp'.length tm' a'→Step ρ0 hp0 w0 ρ' hp' w'→Q .normal a' w'):
    ∀(fuel:Nat) {listed:Array Bool} {a:Act} {w:World} {pre ss:List PStep} {late:List Late} {tm:List (Nat×SV)} {hp:List Blk} {ρ:Nat→Nat} {tmR:List (Nat×SV)},
     Inv P Γ ops K ρ0 hp0 w0 listed a w pre ss late tm hp ρ tmR→order=pre.reverse++ss→unl listed ops.size≤fuel→wpAny P .any ops Q fuel listed a w:=by
  have some_ready: ∀{listed:Array Bool},listed.size=ops.size→Region.ready .any ops listed= []→ ∀i<ops.size,listed.getD i false=true:=by
    intro listed hs hr
    have key: ∀(n:Nat) (l r:List PStep) (p:PStep),order=l++p ::r→l.length<n→listed.getD p.i false=true:=by
      intro n
      induction n with
      |zero=>intro l r p _ h;omega
      |succ n ih=>
       intro l r p he hn
       obtain ⟨o,ho,hedge⟩:=hord l r p he
       have hpl:p.i<ops.size:=(Array.getElem?_eq_some_iff.1 ho).1
       cases h:listed.getD p.i false with
       |true=>rfl
       |false=>
        have:p.i∈Region.ready .any ops listed:=mem_ready.2 ⟨by rw [zqq hs hpl,h],o,ho,fun e he2 hb=>by
          obtain ⟨x,hx,hxe⟩:=hedge e.on (zka.2 ⟨e,he2,hb,rfl⟩)
          obtain ⟨l1,l2,rfl⟩:=List.append_of_mem hx
          rw [←hxe]
          refine ih l1 (l2++p ::r) x (by rw [he];simp) ?_
          simp at hn;omega⟩
        rw [hr] at this;cases this
    intro i hi
    obtain ⟨p,hp,rfl⟩:=hall i hi
    obtain ⟨l,r,he⟩:=List.append_of_mem hp
    exact key (l.length+1) l r p he (by omega)
  intro fuel
  induction fuel with
  |zero=>
   intro listed a w pre ss late tm hp ρ tmR I hpart hf
   have hlist: ∀i<ops.size,listed.getD i false=true:=fun i hi=>by
     have:unl listed ops.size=0:=by omega
     unfold unl at this
     rw [List.countP_eq_zero] at this
     simpa using this i (List.mem_range.2 hi)
   obtain ⟨pre',ss',late',tm',hp',hord',I',hsat⟩:=I.saturate hΓ
   rw [←hpart] at hord'
   have hpend:y7 listed late'= []:=by
     unfold y7
     rw [List.filter_eq_nil_iff.2,List.reverse_nil]
     intro x hx
     have:=(Array.getElem?_eq_some_iff.1 (I'.get x hx)).1
     rw [hlist _ this];simp
   refine ⟨List.filter_eq_nil_iff.2 fun i hi=>?_,?_⟩
   ·rw [List.mem_range] at hi
    rw [zqq I.size hi,hlist i hi];simp
   ·rcases hsat with rfl|⟨s,ss'',o,T',rfl,S,_⟩
    ·have hc:=I'.chain
     have hst:=I'.step
     rw [hpend] at hc hst
     exact hQ _ _ ρ tm' hp' I'.vc (I'.tmr.same fun t=>(hc t).symm) hst
    ·have:=hlist s.i (Array.getElem?_eq_some_iff.1 S.get).1
     obtain ⟨p,h1,h2⟩:=I'.real _ this
     exact absurd h2 (S.new p h1)
  |succ fuel ih=>
   intro listed a w pre ss late tm hp ρ tmR I hpart hf
   obtain ⟨pre',ss',late',tm',hp',hord',I',hsat⟩:=I.saturate hΓ
   rw [←hpart] at hord'
   refine ⟨fun hr=>?_,fun i hi=>?_⟩
   ·have hlist:=some_ready I.size hr
    have hpend:y7 listed late'= []:=by
      unfold y7
      rw [List.filter_eq_nil_iff.2,List.reverse_nil]
      intro x hx
      have:=(Array.getElem?_eq_some_iff.1 (I'.get x hx)).1
      rw [hlist _ this];simp
    rcases hsat with rfl|⟨s,ss'',o,T',rfl,S,_⟩
    ·have hc:=I'.chain
     have hst:=I'.step
     rw [hpend] at hc hst
     exact hQ _ _ ρ tm' hp' I'.vc (I'.tmr.same fun t=>(hc t).symm) hst
    ·have:=hlist s.i (Array.getElem?_eq_some_iff.1 S.get).1
     obtain ⟨p,h1,h2⟩:=I'.real _ this
     exact absurd h2 (S.new p h1)
   ·obtain ⟨hun,o,ho,hall'⟩:=mem_ready.1 hi
    have hil:i<ops.size:=(Array.getElem?_eq_some_iff.1 ho).1
    rw [zqq I.size hil] at hun
    have hrd: ∀e∈xk o,listed.getD e false=true:=fun e he=>by
      obtain ⟨x,h1,h2,h3⟩:=zka.1 he
      rw [←h3];exact hall' x h1 h2
    have hdec:=z5h (listed:=listed) hil I.size hun
    by_cases hip: ∃p∈pre',p.i=i
    ·obtain ⟨p,hp1,hp2⟩:=hip
     rcases I'.virt p hp1 with h|⟨x,hx,hxi⟩
     ·rw [hp2,hun] at h;cases h
     ·have hxi':x.i=i:=by rw [hxi,hp2]
      subst hxi'
      have hxo:x.o=o:=by
        have:=I'.get x hx
        rw [ho] at this;exact (Option.some.inj this).symm
      exact I'.exec hE (xb.2 ⟨hx,hun⟩) (by rw [hxo];exact hrd) fun a' w' ρ' tmR' J=>ih J hord'.symm (by omega)
    ·rcases hsat with rfl|⟨s,ss'',o',T',rfl,S,hT',hpl',hka,hw,hav⟩
     ·obtain ⟨p,hp,hpi⟩:=hall i hil
      rw [←hord',List.append_nil,List.mem_reverse] at hp
      exact absurd ⟨p,hp,hpi⟩ hip
     ·have hsi:i=s.i:=by
        obtain ⟨p,hp,hpi⟩:=hall i hil
        rw [←hord'] at hp
        rcases List.mem_append.1 hp with hp|hp
        ·exact absurd ⟨p,List.mem_reverse.1 hp,hpi⟩ hip
        ·rcases List.mem_cons.1 hp with rfl|hp
         ·exact hpi.symm
         ·obtain ⟨u,hu,e,he,hne⟩:=S.forced hka p hp
          rw [hpi,ho] at hu
          cases hu
          obtain ⟨x,hx,hxe⟩:=I'.real e (hrd e he)
          exact absurd hxe (hne x hx)
      subst hsi
      have:o'=o:=by have:=S.get;rw [ho] at this;exact (Option.some.inj this).symm
      subst this
      exact I'.anchor hΓ S hT' hpl' hka hw hav hrd fun a' w' hp2 ρ' tm2 tmR' J=>ih J (by rw [←hord'];simp) (by omega)
theorem zkb {order:List PStep}: ∀{ss pre:List PStep} {T:Table},zdj ops Γ pre ss T=true→(∀i,(∃x∈pre,x.i=i)↔ ∃x∈order,x.i=i)→
    ∀(l r:List PStep) p,ss=l++p ::r→ ∃o,ops[p.i]?=some o∧ ∀e∈xk o,∃x∈order++l,x.i=e
  | [],_,_,_,_,l,r,p,h=>by simp at h
  |s ::ss,pre,T,h,hpre,l,r,p,he=>by
   simp only [zdj] at h
   split at h
   ·cases h
   ·rename_i o ho
    simp only [Bool.and_eq_true] at h
    obtain ⟨⟨⟨⟨_,h2⟩,_⟩,_⟩,h5⟩:=h
    cases l with
    |nil=>
     simp at he
     obtain ⟨rfl,rfl⟩:=he
     refine ⟨o,ho,fun e hee=>?_⟩
     rw [List.all_eq_true] at h2
     obtain ⟨x,hx,hxe⟩:=ze6.1 (h2 e hee)
     obtain ⟨y,hy,hye⟩:=(hpre e).1 ⟨x,hx,hxe⟩
     exact ⟨y,by simp [hy],hye⟩
    |cons q l=>
     simp at he
     obtain ⟨rfl,he⟩:=he
     obtain ⟨o',h1,h3⟩:=zkb (order:=order++ [s]) h5 (fun i=>by
       constructor
       ·rintro ⟨x,hx,hxi⟩
        rcases List.mem_cons.1 hx with rfl|hx
        ·exact ⟨x,by simp,hxi⟩
        ·obtain ⟨y,hy,hyi⟩:=(hpre i).1 ⟨x,hx,hxi⟩
         exact ⟨y,by simp [hy],hyi⟩
       ·rintro ⟨x,hx,hxi⟩
        rcases List.mem_append.1 hx with hx|hx
        ·obtain ⟨y,hy,hyi⟩:=(hpre i).2 ⟨x,hx,hxi⟩
         exact ⟨y,by simp [hy],hyi⟩
        ·simp at hx;subst hx;exact ⟨x,by simp,hxi⟩) l r p he
     exact ⟨o',h1,fun e hee=>by obtain ⟨x,hx,hxe⟩:=h3 e hee;exact ⟨x,by simpa using hx,hxe⟩⟩
theorem z77 (hΓ:CtxOK P Γ) (hm:P.follows .mixedOrders=true) {id:Nat} {steps:List PStep} (hok:zjp ops Γ steps=true) {tm:List (Nat×SV)} {hp:List Blk} {ρ:Nat→Nat} {a:Act} {w:World}
    (hE: ∀w',Ext (zgf ρ hp) w w'→Γ.E w') (ht:TmRel Γ.nt ρ hp.length tm a) (hr:HpRel ρ hp w) (h:zd0 Γ ops.toList steps [] tm hp K)
    (hQ: ∀a' w' ρ' tm' hp',K ⟨tm',hp'⟩→TmRel Γ.nt ρ' hp'.length tm' a'→Step ρ hp w ρ' hp' w'→Q .normal a' w'):(Code.region id ops true).wp P Q a w:=by
  unfold zjp at hok
  simp only [Bool.and_eq_true,List.all_eq_true,List.mem_range] at hok
  obtain ⟨⟨hns,hall⟩,hpl⟩:=hok
  refine wp_region_any hm ?_
  have I:Inv P Γ ops K ρ hp w (Array.replicate ops.size false) a {w with drawn:=w.drawn+1} [] steps [] tm hp ρ tm:=
    {size:=by simp
     down:=fun i o hi=>by
       rw [Array.getD_eq_getD_getElem?,Array.getElem?_replicate] at hi
       split at hi<;>simp at hi
     real:=fun i hi=>by
       rw [Array.getD_eq_getD_getElem?,Array.getElem?_replicate] at hi
       split at hi<;>simp at hi
     virt:=fun p hp=>by cases hp
     get:=fun x hx=>by cases hx
     along:= .nil
     nodup:= .nil
     pairs:= .nil
     rkind:=fun x hx=>by cases hx
     rmask:=fun x hx=>by cases hx
     mblk:=fun x hx=>by cases hx
     mone:=fun x hx=>by cases hx
     avoid:=fun y hy=>by simp [y7] at hy
     tmr:=ht
     chain:=fun t=>rfl
     step:=Step.world hr rfl rfl rfl rfl
     hpok:=fun k el ps hk=>(hr.mem k el ps hk).1
     a1:=fun t v hv=>SV.ok_mono (fun x _=>by simp [y7,xu]) v (ht.okay t v hv)
     a2:=fun k el ps _ hk=>yq (fun x _=>by simp [y7,xu]) _ (hr.mem k el ps hk).1
     nsel:=fun j o cs b ho=>Region.noSelect_spec hns j o cs b ho
     plan:=⟨[],fun i k hk=>by simp [zoc] at hk,hpl⟩
     vc:=h}
  refine I.any hΓ hE steps (fun i hi=>ze6.1 (hall i hi)) (fun l r p he=>?_) hQ ops.size (by simp) ?_
  ·obtain ⟨o,h1,h2⟩:=zkb (order:= []) hpl (fun i=>by simp) l r p he
   exact ⟨o,h1,fun e hee=>by simpa using h2 e hee⟩
  ·unfold unl
   exact Nat.le_trans List.countP_le_length (by simp)
end
end Go.Sym

namespace Go.Sym
noncomputable def zyp (Γ:Ctx) (all:List Oper) (os:List Oper):List (Nat×SV)→List Blk→(St→Prop)→Prop:=
  List.rec (motive:=fun _=>List (Nat×SV)→List Blk→(St→Prop)→Prop) (fun tm hp K=>K ⟨tm,hp⟩) (fun o _ ih tm hp K=>zjk all o tm
    (z3z Γ o tm hp fun st=>match st with|⟨tm',hp'⟩=>ih tm' hp' K)
    (zcw Γ.nt tm hp o.dst (.tup []) fun st=>match st with|⟨tm',hp'⟩=>ih tm' hp' K)) os
theorem zxr (Γ:Ctx) (all:List Oper) (o:Oper) (os:List Oper) (tm:List (Nat×SV)) (hp:List Blk) (K:St→Prop):zyp Γ all (o ::os) tm hp K=zjk all o tm
    (z3z Γ o tm hp fun st=>match st with|⟨tm',hp'⟩=>zyp Γ all os tm' hp' K)
    (zcw Γ.nt tm hp o.dst (.tup []) fun st=>match st with|⟨tm',hp'⟩=>zyp Γ all os tm' hp' K):=rfl
def z2r:Nat→List Nat→Nat→Bool
  |0,_,_=>true
  |_+1,[],_=>false
  |n+1,g ::gs,k=>match Nat.beq g k with|true=>z2r n gs (k+1)|false=>false
def zr3:List Nat→List Blk→Bool
  | [],[]=>true
  |_ ::gs,_ ::bs=>zr3 gs bs
  |_,_=>false
def zj7 (gl:List Nat) (n:Nat) (hp:List Blk):List Nat→List Blk→Prop→Prop
  |g ::gs,b ::bs,p=>match b with
   | .dead=>zj7 gl n hp gs bs p
   | .mk _ ps=>match zhe (fun k=>Nat.blt k n) ps with
     |true=>zdi hp g fun b'=>match b' with
      | .mk _ qs=>znh (.agg qs) ((SV.agg ps).ren (fwd gl 0)) (zj7 gl n hp gs bs p)
      | .dead=>False
     |false=>False
  |_,_,p=>p
def zm6 (gl:List Nat) (n:Nat) (tm:List (Nat×SV)):List (Nat×SV)→Prop→Prop
  | [],p=>p
  |(t,v) ::r,p=>match v.all (fun k=>Nat.blt k n) with
   |true=>yf tm t fun u=>znh u (v.ren (fwd gl 0)) (zm6 gl n tm r p)
   |false=>False
def zde (n0:Nat) (gl:List Nat) (tm:List (Nat×SV)) (hp:List Blk) (tm':List (Nat×SV)) (hp':List Blk) (p:Prop):Prop:=
  match zr3 gl hp',zeh gl,z2r n0 gl 0 with
  |true,true,true=>zi1 gl fun n=>zj7 gl n hp gl hp' (zm6 gl n tm tm' p)
  |_,_,_=>False
def zdg (n0:Nat) (f:St→(St→Prop)→Prop) (st:St):Prop:=
  ∃(ι:Type) (I:ι→St) (μ:ι→Nat),(∃i gl,zde n0 gl st.tm st.hp (I i).tm (I i).hp True)∧
   ∀i,f (I i) fun st'=> ∃j gl,μ j<μ i∧zde n0 gl st'.tm st'.hp (I j).tm (I j).hp True
def zbi (n0:Nat) (r:SV) (hp:List Blk) (K:SV→List Blk→Prop):Prop:=
  ∃gl r' hp',zde n0 gl [(0,r)] hp [(0,r')] hp' (K r' hp')
attribute [irreducible] zdg zbi
theorem z69 {n0:Nat} {f:St→(St→Prop)→Prop} {st:St} (ι:Type) (I:ι→St) (μ:ι→Nat) (i:ι) (gl:List Nat) (h0:zde n0 gl st.tm st.hp (I i).tm (I i).hp True)
    (h: ∀i,f (I i) fun st'=> ∃j gl,μ j<μ i∧zde n0 gl st'.tm st'.hp (I j).tm (I j).hp True):zdg n0 f st:=by
  unfold zdg;exact ⟨ι,I,μ,⟨i,gl,h0⟩,h⟩
theorem z7x {n0:Nat} {f:St→(St→Prop)→Prop} {st:St} (h:zdg n0 f st): ∃(ι:Type) (I:ι→St) (μ:ι→Nat),(∃i gl,zde n0 gl st.tm st.hp (I i).tm (I i).hp True)∧
    ∀i,f (I i) fun st'=> ∃j gl,μ j<μ i∧zde n0 gl st'.tm st'.hp (I j).tm (I j).hp True:=by unfold zdg at h;exact h
theorem z33 {n0:Nat} {r:SV} {hp:List Blk} {K:SV→List Blk→Prop} (gl:List Nat) (r':SV) (hp':List Blk) (h:zde n0 gl [(0,r)] hp [(0,r')] hp' (K r' hp')):zbi n0 r hp K:=by
  unfold zbi;exact ⟨gl,r',hp',h⟩
theorem z5n {n0:Nat} {r:SV} {hp:List Blk} {K:SV→List Blk→Prop} (h:zbi n0 r hp K): ∃gl r' hp',zde n0 gl [(0,r)] hp [(0,r')] hp' (K r' hp'):=by unfold zbi at h;exact h
noncomputable def vc (Γ:Ctx) (D:List (Nat×List PStep)) (n0:Nat) (c:Code):List (Nat×SV)→List Blk→(St→Prop)→(Nat→St→Prop)→(St→Prop)→Prop:=
  Code.rec (motive:=fun _=>List (Nat×SV)→List Blk→(St→Prop)→(Nat→St→Prop)→(St→Prop)→Prop)
    (fun tm hp N _ _=>N ⟨tm,hp⟩)
    (fun id ops dr tm hp N _ _=>match dr with
      |false=>zyp Γ ops.toList ops.toList tm hp N
      |true=>yf D id fun steps=>Pre (zjp ops Γ steps=true) (zd0 Γ ops.toList steps [] tm hp N))
    (fun _ _ iha ihb tm hp N X R=>iha tm hp (fun st=>match st with|⟨tm',hp'⟩=>ihb tm' hp' N X R) X R)
    (fun c _ _ iha ihb tm hp N X R=>evK tm c fun v=>match v with
      | .bool t=>zv t (iha tm hp N X R) (ihb tm hp N X R)
      |_=>False)
    (fun id _ ih tm hp N X R=>ih tm hp N (fun i st=>match Nat.beq i id with|true=>N st|false=>X i st) R)
    (fun _ ih tm hp _ X R=>zdg n0 (fun st N'=>match st with|⟨tm',hp'⟩=>ih tm' hp' N' X R) ⟨tm,hp⟩)
    (fun _ _ _ _ _ _ _ _ _ _ _=>False)
    (fun id tm hp _ X _=>X id ⟨tm,hp⟩)
    (fun _ _ _ _ _ _ _=>False)
    (fun _ tm hp N _ _=>N ⟨tm,hp⟩)
    (fun _ _ _ _ _ _=>False)
    (fun tm hp _ _ R=>R ⟨tm,hp⟩)
    (fun _ _ _ _ _ _=>False)
    c
section
variable {Γ:Ctx} {D:List (Nat×List PStep)} {n0:Nat} {tm:List (Nat×SV)} {hp:List Blk} {N:St→Prop} {X:Nat→St→Prop} {R:St→Prop}
theorem z5k {c:Operand} {a b:Code}:vc Γ D n0 (.cond c a b) tm hp N X R=(evK tm c fun v=>match v with
    | .bool t=>zv t (vc Γ D n0 a tm hp N X R) (vc Γ D n0 b tm hp N X R)
    |_=>False):=rfl
theorem z4d {c:Code}:vc Γ D n0 (.loop c) tm hp N X R=zdg n0 (fun st N'=>match st with|⟨tm',hp'⟩=>vc Γ D n0 c tm' hp' N' X R) ⟨tm,hp⟩:=rfl
end
def zrf (Γ:Ctx) (tm:List (Nat×SV)) (hp:List Blk):List ResultVar→(List SV→Prop)→Prop
  | [],k=>k []
  | .tmp t ::r,k=>yf tm t fun v=>zrf Γ tm hp r fun vs=>k (v ::vs)
  | .cell a t ::r,k=>yf Γ.ty t fun ti=>yf tm a fun v=>match v with
    | .ptr q j b oo=>zc0 hp q fun _ ps=>zk3 ti ps j b oo fun v=>zrf Γ tm hp r fun vs=>k (v ::vs)
    |_=>False
def z19 (vs:List SV) (k:SV→Prop):Prop:=
  match vs with
  | [v]=>k v
  |vs=>k (.tup vs)
def zqs:List SV→Nat→(List (Nat×SV)→Prop)→Prop
  | [],_,k=>k []
  |v ::vs,i,k=>zqs vs (i+1) fun tm=>k ((i,v) ::tm)
noncomputable def zs5 (Γ:Ctx) (D:List (Nat×List PStep)) (c:Code) (res:List ResultVar) (args:List SV) (hp:List Blk) (K:SV→List Blk→Prop):Prop:=
  zqs args 0 fun tm=>zi1 hp fun n0=>
    vc Γ D n0 c tm hp (fun st=>match st with|⟨tm',hp'⟩=>zrf Γ tm' hp' res fun vs=>z19 vs fun r=>zbi n0 r hp' K)
     (fun _ _=>False) (fun st=>match st with|⟨tm',hp'⟩=>zrf Γ tm' hp' res fun vs=>z19 vs fun r=>zbi n0 r hp' K)
end Go.Sym

namespace Go.Sym
section
variable {P:Program} {Γ:Ctx} {ops:Array Oper} {Q:Exit→Act→World→Prop} {ρ0:Nat→Nat} {hp0:List Blk} {w0:World}
variable {a:Act} {w:World} {tm:List (Nat×SV)} {hp:List Blk} {ρ:Nat→Nat}
def Rel (Γ:Ctx) (ρ0:Nat→Nat) (hp0:List Blk) (w0:World) (st:St) (a:Act) (w:World):Prop:=
  ∃ρ,TmRel Γ.nt ρ st.hp.length st.tm a∧Step ρ0 hp0 w0 ρ st.hp w
theorem z8s (hΓ:CtxOK P Γ) (hE: ∀w',Ext (zgf ρ0 hp0) w0 w'→Γ.E w') {i:Nat} {o:Oper} (ho:ops[i]?=some o) (hw:Region.wanted o (yielded ops a.tmps)=true) (ht:TmRel Γ.nt ρ hp.length tm a) (S:Step ρ0 hp0 w0 ρ hp w) {K:St→Prop} (h:z3z Γ o tm hp K)
    {Kc:Act→World→Prop} (hK: ∀a' w' st,K st→Rel Γ ρ0 hp0 w0 st a' w'→Kc a' w'):wpOp P ops Q i Kc a w:=by
  have hval: ∀(v:SV) (ρ':Nat→Nat) (hp1:List Blk) (w':World),v.ok (· <hp1.length)→Step ρ hp w ρ' hp1 w'→zcw Γ.nt tm hp1 o.dst v K→Kc (a.put o.dst (v.den ρ')) w':=fun v ρ' hp1 w' hv T hk=>by
    obtain ⟨hd,hk⟩:=zc8 hk
    exact hK _ _ _ hk ⟨ρ',(ht.later T.same T.le).put hd hv,S.trans T⟩
  unfold z3z at h
  split at h
  ·obtain ⟨v,h1,hv,hr⟩:=zoy (P:=P) hΓ ht o h
   exact zba ho hw (hr w) (hval v ρ hp w hv (Step.refl S.rel) h1)
  ·obtain ⟨v,h1,hv,hr⟩:=zki (P:=P) hΓ S.rel ht o h
   exact zba ho hw (hr (hE w S.ext)) (hval v ρ hp w hv (Step.refl S.rel) h1)
  ·have h:=zdh h
   obtain ⟨v,el,ps,h1,hv,hps,hr⟩:=zsl (P:=P) hΓ ht o h
   have h1:=zby h1
   refine zba ho hw (hr (zfr ρ hp.length w.heap.size) w xj) (hval v _ _ _ (SV.ok_mono (fun x hx=>by rw [hx];simp) v hv) (Step.alloc (el0:=el) (fz:=(0,0)) S.rel hps rfl (.inl (Nat.le_refl _)) rfl rfl rfl) h1)
  ·rcases zos (P:=P) hΓ S.rel ht o h with ⟨v,ρ',hp1,w',hr,hv,T,hf⟩|⟨hp1,w',hr,T,hf⟩|⟨f,args,hr,hc⟩
   ·exact zba ho hw hr (hval v ρ' hp1 w' hv T hf)
   ·unfold wpOp
    simp only [ho,hw,if_true,Oper.wp,hr,Oper.upon]
    refine .inl ?_
    cases hd:o.dst with
    |none=>rw [hd] at hf;exact hK _ _ _ hf ⟨ρ,ht.later T.same T.le,S.trans T⟩
    |some d=>rw [hd] at hf;exact hf.elim
   ·unfold wpOp
    simp only [ho,hw,if_true,Oper.wp,hr,Oper.upon]
    refine .inl (hc.mono fun e w' ⟨v,ρ',hp1,he,hv,T,hf⟩=>?_)
    subst he
    exact hval v ρ' hp1 w' hv T hf
theorem zs1 (hΓ:CtxOK P Γ) (hE: ∀w',Ext (zgf ρ0 hp0) w0 w'→Γ.E w') {K:St→Prop} (hK: ∀a' w' st,K st→Rel Γ ρ0 hp0 w0 st a' w'→Q .normal a' w'):
    ∀(os:List Oper) (n:Nat) {tm:List (Nat×SV)} {hp:List Blk} {ρ:Nat→Nat} {a:Act} {w:World},(∀k,os[k]?=ops[n+k]?)→TmRel Γ.nt ρ hp.length tm a→Step ρ0 hp0 w0 ρ hp w→zyp Γ ops.toList os tm hp K→
     wpOps P ops Q (List.range' n os.length) a w
  | [],n,tm,hp,ρ,a,w,_,ht,S,h=>hK a w _ h ⟨ρ,ht,S⟩
  |o ::os,n,tm,hp,ρ,a,w,hos,ht,S,h=>by
   have ho:ops[n]?=some o:=by simpa using (hos 0).symm
   have hos': ∀k,os[k]?=ops[n+1+k]?:=fun k=>by
     have:=hos (k+1)
     rw [List.getElem?_cons_succ] at this
     rw [this];congr 1;omega
   rw [List.length_cons,List.range'_succ,wpOps_cons]
   rw [zxr] at h
   rcases zsf (Γ:=Γ) (n:=hp.length) h with ⟨hw,h⟩|⟨hw,h⟩
   ·refine z8s (ρ0:=ρ0) (hp0:=hp0) (w0:=w0) hΓ hE ho (hw ρ a ht) ht S h fun a' w' st hst hrel=>?_
    obtain ⟨ρ',ht',S'⟩:=hrel
    exact zs1 hΓ hE hK os (n+1) hos' ht' S' hst
   ·obtain ⟨hd,h⟩:=zc8 h
    unfold wpOp
    simp only [ho,hw ρ a ht,Bool.false_eq_true,if_false]
    exact zs1 hΓ hE hK os (n+1) hos' (ht.put hd (v:= .tup []) (by simp [SV.ok,okL])) S h
theorem SV.ok_unren {p:Nat→Prop} (g:Nat→Nat): ∀v:SV,(v.ren g).ok p→v.ok (fun k=>p (g k)):=by
  intro v
  refine SV.rec (motive_1:=fun v=>(v.ren g).ok p→v.ok (fun k=>p (g k))) (motive_2:=fun vs=>okL p (zb2 g vs)→okL (fun k=>p (g k)) vs)
    ?_ ?_ ?_ ?_ ?_ ?_ ?_ ?_ ?_ ?_ ?_ ?_ ?_ ?_ ?_ ?_ ?_ ?_ ?_ ?_ ?_ ?_ ?_ ?_ ?_ ?_ ?_ v
  case refine_26=>intro _;trivial
  case refine_27=>intro v vs ihv ihs h;exact ⟨ihv h.1,ihs h.2⟩
  all_goals first
    |(intros;rename_i h;first|exact h|trivial)
    |(intro ps ih h;exact ih h)
    |(intro a ps ih h;exact ih h)
theorem z2i: ∀{n:Nat} {gl:List Nat} {k:Nat},z2r n gl k=true→n≤gl.length∧ ∀i,i<n→gl[i]?=some (k+i)
  |0,_,_,_=>⟨Nat.zero_le _,fun i hi=>by omega⟩
  |n+1,[],_,h=>by simp [z2r] at h
  |n+1,g ::gs,k,h=>by
   simp only [z2r] at h
   split at h
   ·rename_i e
    obtain ⟨h1,h2⟩:=z2i h
    refine ⟨by simp;omega,fun i hi=>?_⟩
    cases i with
    |zero=>simp [Nat.eq_of_beq_eq_true e]
    |succ i=>rw [List.getElem?_cons_succ,h2 i (by omega)];congr 1;omega
   ·cases h
theorem zvh: ∀{gl:List Nat} {hp:List Blk},zr3 gl hp=true→gl.length=hp.length
  | [],[],_=>rfl
  |_ ::gs,_ ::bs,h=>by simp [zvh (gl:=gs) (hp:=bs) h]
  | [],_ ::_,h=>by simp [zr3] at h
  |_ ::_,[],h=>by simp [zr3] at h
theorem zpa {gl:List Nat} {n:Nat} {hp:List Blk}: ∀{gs:List Nat} {bs:List Blk} {p:Prop},gs.length=bs.length→zj7 gl n hp gs bs p→
    p∧ ∀(k:Nat) el ps,bs[k]?=some (Blk.mk el ps)→zhe (fun k=>Nat.blt k n) ps=true∧ ∃g el',gs[k]?=some g∧hp[g]?=some (.mk el' (zb2 (fwd gl 0) ps))
  | [],[],p,_,h=>⟨h,by simp⟩
  |g ::gs,b ::bs,p,hl,h=>by
   simp only [zj7] at h
   simp at hl
   split at h
   ·obtain ⟨h1,h2⟩:=zpa hl h
    refine ⟨h1,fun k el ps hk=>?_⟩
    cases k with
    |zero=>simp at hk
    |succ k=>simpa using h2 k el ps (by simpa using hk)
   ·rename_i el qs
    split at h
    ·rename_i hall
     obtain ⟨b',hb',h⟩:=zch h
     split at h
     ·rename_i el' rs
      obtain ⟨he,h⟩:=zlf h
      obtain ⟨h1,h2⟩:=zpa hl h
      refine ⟨h1,fun k el ps hk=>?_⟩
      cases k with
      |zero=>
       simp at hk
       obtain ⟨rfl,rfl⟩:=hk
       simp only [SV.ren] at he
       cases he
       exact ⟨hall,g,el',by simp,hb'⟩
      |succ k=>simpa using h2 k el ps (by simpa using hk)
     ·exact h.elim
    ·exact h.elim
theorem zv4 {gl:List Nat} {n:Nat} {tm:List (Nat×SV)}: ∀{r:List (Nat×SV)} {p:Prop},zm6 gl n tm r p→
    p∧ ∀t v,y3 r t=some v→v.all (fun k=>Nat.blt k n)=true∧y3 tm t=some (v.ren (fwd gl 0))
  | [],p,h=>⟨h,fun t v hv=>by cases hv⟩
  |(t,v) ::r,p,h=>by
   simp only [zm6] at h
   split at h
   ·rename_i hall
    obtain ⟨u,hu,h⟩:=z6 h
    obtain ⟨hs,hn⟩:=zlf h
    subst hs
    obtain ⟨h1,h2⟩:=zv4 (tm:=tm) (gl:=gl) (n:=n) hn
    refine ⟨h1,fun t' v' hv'=>?_⟩
    simp only [y3] at hv'
    split at hv'
    ·rename_i e;subst e;cases hv';exact ⟨hall,hu⟩
    ·exact h2 t' v' hv'
   ·exact h.elim
theorem zt3 {gl:List Nat} {tm':List (Nat×SV)} {hp':List Blk} {p:Prop} (h:zde hp0.length gl tm hp tm' hp' p) (ht:TmRel Γ.nt ρ hp.length tm a) (S:Step ρ0 hp0 w0 ρ hp w):
    p∧TmRel Γ.nt (fun k=>ρ (fwd gl 0 k)) hp'.length tm' a∧Step ρ0 hp0 w0 (fun k=>ρ (fwd gl 0 k)) hp' w∧
     ∀t v,y3 tm' t=some v→v.ok (· <hp'.length)∧y3 tm t=some (v.ren (fwd gl 0)):=by
  unfold zde at h
  split at h
  ·rename_i h1 h2 h3
   have hlen:=zvh h1
   have h:=zdh h
   obtain ⟨h,hb⟩:=zpa hlen h
   obtain ⟨hp_,htm⟩:=zv4 h
   obtain ⟨hle,hpre⟩:=z2i h3
   have hblk: ∀(k:Nat) el ps,hp'[k]?=some (Blk.mk el ps)→ ∃el',hp[fwd gl 0 k]?=some (Blk.mk el' (zb2 (fwd gl 0) ps))∧gl[k]?=some (fwd gl 0 k)∧okL (· <hp'.length) ps:=fun k el ps hk=>by
     obtain ⟨hall,g,el',hg,hh⟩:=hb k el ps hk
     have hf:fwd gl 0 k=g:=zda hg
     refine ⟨el',by rw [hf];exact hh,by rw [hf];exact hg,?_⟩
     have hok:=(S.rel.mem g el' _ hh).1
     have:=SV.ok_all (SV.agg ps) (SV.ok_unren (fwd gl 0) (.agg ps) hok) hall
     rw [hlen] at this
     exact yq (fun x hx=>Nat.le_of_ble_eq_true hx) _ this
   have hv: ∀t v,y3 tm' t=some v→v.ok (· <hp'.length)∧y3 tm t=some (v.ren (fwd gl 0)):=fun t v hv=>by
     obtain ⟨hall,hl⟩:=htm t v hv
     have:=SV.ok_all v (SV.ok_unren (fwd gl 0) v (ht.val t _ hl).1) hall
     rw [hlen] at this
     exact ⟨SV.ok_mono (fun x hx=>Nat.le_of_ble_eq_true hx) v this,hl⟩
   refine ⟨hp_,⟨ht.size,ht.defers,fun t v hv'=>?_⟩,⟨⟨fun k el ps hk=>?_,fun k k' el ps el' ps' hk hk' he=>?_⟩,fun k hk=>?_,by rw [←hlen];exact hle,S.ext,?_⟩,hv⟩
   ·obtain ⟨h5,h6⟩:=hv t v hv'
    refine ⟨h5,?_⟩
    rw [(ht.val t _ h6).2,SV.den_ren]
   ·obtain ⟨el',hh,_,hok⟩:=hblk k el ps hk
    obtain ⟨_,el2,fz,g1,g2⟩:=S.rel.mem _ _ _ hh
    rw [za8] at g1 g2
    exact ⟨hok,el2,fz,g1,g2⟩
   ·obtain ⟨e1,f1,g1,_⟩:=hblk k el ps hk
    obtain ⟨e2,f2,g2,_⟩:=hblk k' el' ps' hk'
    have:=S.rel.inj _ _ _ _ _ _ f1 f2 he
    rw [this] at g1
    exact zjf h2 g1 g2
   ·have:=hpre k hk
    rw [Nat.zero_add] at this
    show ρ (fwd gl 0 k)=ρ0 k
    rw [zda this];exact S.same k hk
   ·rintro b ⟨k,el,ps,hk,rfl⟩
    obtain ⟨e1,f1,_⟩:=hblk k el ps hk
    exact S.foot _ ⟨_,_,_,f1,rfl⟩
  ·exact h.elim
theorem zvk {p:Nat→Prop} (h: ∃n,p n): ∃n,p n∧ ∀m,p m→n≤m:=by
  obtain ⟨n,hn⟩:=h
  induction n using Nat.strongRecOn with
  |_ n ih=>
   by_cases hl: ∃m,m<n∧p m
   ·obtain ⟨m,hm,hp⟩:=hl;exact ih m hm hp
   ·exact ⟨n,hn,fun m hp=>Nat.le_of_not_lt fun hlt=>hl ⟨m,hlt,hp⟩⟩
theorem ztm (hΓ:CtxOK P Γ) (hE: ∀w',Ext (zgf ρ0 hp0) w0 w'→Γ.E w') (hm:P.follows .mixedOrders=true) {D:List (Nat×List PStep)}: ∀(c:Code) {tm:List (Nat×SV)} {hp:List Blk} {ρ:Nat→Nat} {a:Act} {w:World} {N:St→Prop} {X:Nat→St→Prop} {R:St→Prop} {Q:Exit→Act→World→Prop},
    vc Γ D hp0.length c tm hp N X R→TmRel Γ.nt ρ hp.length tm a→Step ρ0 hp0 w0 ρ hp w→
    (∀st a w,N st→Rel Γ ρ0 hp0 w0 st a w→Q .normal a w)→(∀id st a w,X id st→Rel Γ ρ0 hp0 w0 st a w→Q (.exit id) a w)→(∀st a w,R st→Rel Γ ρ0 hp0 w0 st a w→Q .ret a w)→c.wp P Q a w
  | .skip,_,_,ρ,_,_,_,_,_,_,h,ht,S,hN,_,_=>wp_skip (hN _ _ _ h ⟨ρ,ht,S⟩)
  | .label _,_,_,ρ,_,_,_,_,_,_,h,ht,S,hN,_,_=>wp_label (hN _ _ _ h ⟨ρ,ht,S⟩)
  | .exit id,_,_,ρ,_,_,_,_,_,_,h,ht,S,_,hX,_=>wp_exit (hX id _ _ _ h ⟨ρ,ht,S⟩)
  | .ret,_,_,ρ,_,_,_,_,_,_,h,ht,S,_,_,hR=>wp_ret (hR _ _ _ h ⟨ρ,ht,S⟩)
  | .region id ops dr,tm,hp,ρ,a,w,N,X,R,Q,h,ht,S,hN,_,_=>by
    cases dr with
    |false=>
     refine wp_region ?_
     have h:zyp Γ ops.toList ops.toList tm hp N:=h
     have:=zs1 (Q:=Q) hΓ hE (fun a' w' st=>hN st a' w') ops.toList 0 (fun k=>by simp) ht S h
     rw [List.range_eq_range']
     simpa using this
    |true=>
     have h:yf D id fun steps=>Pre (zjp ops Γ steps=true) (zd0 Γ ops.toList steps [] tm hp N):=h
     obtain ⟨steps,_,h⟩:=z6 h
     obtain ⟨hok,h⟩:=zm h
     exact z77 hΓ hm hok (fun w' hx=>hE w' (S.ext.trans hx S.foot)) ht S.rel h fun a' w' ρ' tm' hp' hk ht' T=>hN _ _ _ hk ⟨ρ',ht',S.trans T⟩
  | .seq x y,tm,hp,ρ,a,w,N,X,R,Q,h,ht,S,hN,hX,hR=>by
    refine wp_seq (ztm hΓ hE hm x (N:=fun st=>match st with|⟨tm',hp'⟩=>vc Γ D hp0.length y tm' hp' N X R) h ht S (fun st a w hst hrel=>?_) (fun id st a w hst hrel=>hX id st a w hst hrel) (fun st a w hst hrel=>hR st a w hst hrel))
    obtain ⟨ρ',ht',S'⟩:=hrel
    exact ztm hΓ hE hm y hst ht' S' hN hX hR
  | .cond c x y,tm,hp,ρ,a,w,N,X,R,Q,h,ht,S,hN,hX,hR=>by
    rw [z5k] at h
    obtain ⟨v,hok,hv,h⟩:=xv ht h
    clear hok
    split at h
    ·rename_i t
     obtain ⟨h1,h2⟩:=zt h
     exact wp_cond_split (t:=t) (by rw [hv];rfl) (fun e=>ztm hΓ hE hm x (h1 e) ht S hN hX hR) (fun e=>ztm hΓ hE hm y (h2 e) ht S hN hX hR)
    ·exact h.elim
  | .block id c,tm,hp,ρ,a,w,N,X,R,Q,h,ht,S,hN,hX,hR=>by
    refine wp_block (ztm hΓ hE hm c h ht S (fun st a w hst hrel=>hN st a w hst hrel) (fun i st a w hst hrel=>?_) (fun st a w hst hrel=>hR st a w hst hrel))
    split at hst
    ·rename_i e
     have:i=id:=Nat.eq_of_beq_eq_true e
     simp only [Exit.inBlock,this,if_true]
     exact hN st a w hst hrel
    ·rename_i e
     have:i≠id:=Nat.ne_of_beq_eq_false e
     simp only [Exit.inBlock,this,if_false]
     exact hX i st a w hst hrel
  | .loop c,tm,hp,ρ,a,w,N,X,R,Q,h,ht,S,hN,hX,hR=>by
    rw [z4d] at h
    obtain ⟨ι,I,μ,⟨i,gl,h0⟩,hr⟩:=z7x h
    obtain ⟨_,ht0,S0,_⟩:=zt3 h0 ht S
    classical
    have hex: ∀a w,(∃i,Rel Γ ρ0 hp0 w0 (I i) a w)→ ∃n i,Rel Γ ρ0 hp0 w0 (I i) a w∧μ i=n:=fun a w ⟨i,hi⟩=>⟨μ i,i,hi,rfl⟩
    let M:Act→World→Nat:=fun a w=>if h: ∃n i,Rel Γ ρ0 hp0 w0 (I i) a w∧μ i=n then Classical.choose (zvk h) else 0
    refine wp_loop (fun a w=> ∃i,Rel Γ ρ0 hp0 w0 (I i) a w) M ⟨i,_,ht0,S0⟩ fun a w hI=>?_
    have hne:=hex a w hI
    have hM:M a w=Classical.choose (zvk hne):=by simp only [M];rw [dif_pos hne]
    obtain ⟨i,⟨ρ1,ht1,S1⟩,hi⟩:=(Classical.choose_spec (zvk hne)).1
    refine ztm hΓ hE hm c (hr i) ht1 S1 (fun st a' w' hst hrel=>?_) (fun id st a w hst hrel=>hX id st a w hst hrel) (fun st a w hst hrel=>hR st a w hst hrel)
    obtain ⟨j,gl,hlt,hent⟩:=hst
    obtain ⟨ρ2,ht2,S2⟩:=hrel
    obtain ⟨_,ht3,S3,_⟩:=zt3 hent ht2 S2
    have hj:Rel Γ ρ0 hp0 w0 (I j) a' w':=⟨_,ht3,S3⟩
    refine ⟨⟨j,hj⟩,?_⟩
    have hne':=hex a' w' ⟨j,hj⟩
    have:M a' w'≤μ j:=by
      simp only [M];rw [dif_pos hne']
      exact (Classical.choose_spec (zvk hne')).2 _ ⟨j,hj,rfl⟩
    rw [hM,←hi]
    omega
  | .rangeFunc ..,_,_,_,_,_,_,_,_,_,h,_,_,_,_,_=>h.elim
  | .scope _,_,_,_,_,_,_,_,_,_,h,_,_,_,_,_=>h.elim
  | .goto _,_,_,_,_,_,_,_,_,_,h,_,_,_,_,_=>h.elim
end
end Go.Sym
