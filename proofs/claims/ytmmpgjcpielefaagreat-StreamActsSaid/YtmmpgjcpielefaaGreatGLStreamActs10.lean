/-
  Contracts of functions of the program, each said of symbolic values, and plain laws; no condition beyond each statement's own.
-/
import Derived.Test.YtmmpgjcpielefaaGreatGLStreamActs9
set_option linter.unusedSimpArgs false
set_option linter.unusedVariables false
namespace Go.Sym
section
variable {P:Program} {Γ:Ctx} {ops:Array Oper} {Q:Exit→Act→World→Prop} {K:St→Prop} {ρ0:Nat→Nat} {hp0:List Blk} {w0:World}
variable {listed:Array Bool} {a:Act} {w:World} {pre ss:List PStep} {s:PStep} {late:List Late} {tm:List (Nat×SV)} {hp:List Blk} {ρ:Nat→Nat} {tmR:List (Nat×SV)}
theorem ztb {v:SV} {p:Nat→Prop} (hv:v.ok p): ∀{L:List Nat},(∀b∈L,v.ok (· ≠b))→v.ok (· ∉L)
  | [],_=>SV.ok_mono (fun _ _=>by simp) v hv
  |b ::L,h=>SV.ok_and (fun x (h1:x≠b) (h2:x∉L)=>by simp [h1,h2]) v (h b (by simp)) (ztb hv fun c hc=>h c (by simp [hc]))
theorem z5c {vs:List SV} {p:Nat→Prop} (hv:okL p vs) {L:List Nat} (h: ∀b∈L,okL (· ≠b) vs):okL (· ∉L) vs:=ztb (v:= .agg vs) hv h
theorem zca {i:Nat} {o:Oper} (ho:ops[i]?=some o) (hw:Region.wanted o (yielded ops a.tmps)=true) {v:Value} {w':World} (hr:(execOp a.eval o).run P w= .ok (.value v) w') {Kc:Act→World→Prop} (h:Kc (a.put o.dst v) w'):wpOp P ops Q i Kc a w:=by
  unfold wpOp
  simp only [ho,hw,if_true,Oper.wp,hr,Oper.upon]
  exact .inl h
theorem zci {i j:Nat} (h:j<listed.size):(listed.setIfInBounds j true).getD i false=true↔i=j∨listed.getD i false=true:=by
  by_cases e:i=j
  ·subst e;simp [h]
  ·rw [getD_set_ne false (fun x=>e x.symm)];simp [e]
theorem TmRel.re {nt n:Nat} {ρ ρ1:Nat→Nat} {tm:List (Nat×SV)} {a:Act} (h:TmRel nt ρ n tm a) (hs: ∀t v,y8 tm t=some v→v.den ρ1=v.den ρ):TmRel nt ρ1 n tm a:=
  ⟨h.size,h.defers,fun t v hv=>⟨(h.val t v hv).1,by rw [(h.val t v hv).2,hs t v hv]⟩⟩
theorem Inv.lt (I:Inv P Γ ops K ρ0 hp0 w0 listed a w pre ss late tm hp ρ tmR) {x:Late} (hx:x∈late):x.i<listed.size:=by
  rw [I.size];exact (Array.getElem?_eq_some_iff.1 (I.get x hx)).1
theorem Inv.core (I:Inv P Γ ops K ρ0 hp0 w0 listed a w pre ss late tm hp ρ tmR) {x:Late} (hx:x∈xg listed late) (hrd: ∀e∈x5 x.o,listed.getD e false=true):
    ∃A B,xg listed late=A++x ::B∧xg (listed.setIfInBounds x.i true) late=A++B∧zbb P Γ ops hp x tmR∧x.v.ok (· <hp.length)∧(∀d,x.o.dst=some d→d<Γ.nt)∧
     (∀z∈A++B,∀b,z.k= .maker b→x.v.ok (· ≠b)∧ ∀c el ps,x.k= .maker c→hp[c]?=some (.mk el ps)→okL (· ≠b) ps)∧
     ∀a' w' ρ',TmRel Γ.nt ρ' hp.length (zbn tmR x.o.dst x.v) a'→Step ρ0 hp0 w0 ρ' (mask (zaf (A++B)) hp) w'→
      Inv P Γ ops K ρ0 hp0 w0 (listed.setIfInBounds x.i true) a' w' pre ss late tm hp ρ' (zbn tmR x.o.dst x.v):=by
  obtain ⟨hxl,hxu⟩:=xk.1 hx
  have hlt:=I.lt hxl
  obtain ⟨A,B,hAB⟩:=List.append_of_mem hx
  have hbef: ∀{k:Nat},Before ops k x.i→listed.getD k false=true:=fun hb=>
    hb.listed (L:=fun i=>listed.getD i false=true) I.down fun o ho e he=>hrd e (by rw [I.get x hxl] at ho;cases ho;exact he)
  have hnd:(xg listed late).Pairwise fun x y=>x.i≠y.i:=by
    unfold xg
    rw [List.pairwise_reverse]
    exact (I.nodup.filter _).imp fun h=>h.symm
  have hpw:(xg listed late).Pairwise fun x y=>Before ops x.i y.i∨x.o.apart ops y.o=true:=by
    unfold xg
    rw [List.pairwise_reverse]
    exact I.pairs.filter _
  rw [hAB,List.pairwise_append] at hnd hpw
  have hnA: ∀y∈A,y.i≠x.i:=fun y hy=>hnd.2.2 y hy x (by simp)
  have hnB: ∀y∈B,y.i≠x.i:=fun y hy=>((List.pairwise_cons.1 hnd.2.1).1 y hy).symm
  have hmem: ∀{y:Late},y∈A++B→y∈xg listed late∧y.i≠x.i:=fun hy=>by
    rw [hAB]
    rcases List.mem_append.1 hy with h|h
    ·exact ⟨by simp [h],hnA _ h⟩
    ·exact ⟨by simp [h],hnB _ h⟩
  have hpe:xg (listed.setIfInBounds x.i true) late=A++B:=by
    have:xg (listed.setIfInBounds x.i true) late=(xg listed late).filter fun y=>!(decide (y.i=x.i)):=by
      unfold xg
      rw [List.filter_reverse,List.filter_filter]
      congr 1
      apply List.filter_congr
      intro y hy
      by_cases e:y.i=x.i
      ·have:(listed.setIfInBounds x.i true).getD y.i false=true:=(zci hlt).2 (.inl e)
       rw [this];simp [e]
      ·rw [getD_set_ne false (fun h=>e h.symm)];simp [e]
    rw [this,hAB,List.filter_append,List.filter_cons_of_neg (by simp),List.filter_eq_self.2 (fun y hy=>by simp [hnA y hy]),List.filter_eq_self.2 (fun y hy=>by simp [hnB y hy])]
  have hch:=I.chain
  rw [hAB] at hch
  have hns: ∀(j:Nat) (o:Oper) cs b,ops[j]?=some o→o.op≠ .select cs b:=I.nsel
  obtain ⟨f1,f2,f3,f4⟩:=hch.bubble hns (I.get x hxl) I.tmr.okay fun y hy=>by
    have hyp:y∈xg listed late:=by rw [hAB];simp [hy]
    obtain ⟨hyl,hyu⟩:=xk.1 hyp
    refine ⟨I.get y hyl,(hpw.2.2 y hy x (by simp)).resolve_left fun hb=>?_⟩
    rw [hbef hb] at hyu;cases hyu
  have hav: ∀z∈A++B,∀b,z.k= .maker b→x.v.ok (· ≠b)∧ ∀c el ps,x.k= .maker c→hp[c]?=some (.mk el ps)→okL (· ≠b) ps:=fun z hz b hb=>by
    obtain ⟨hzp,hzn⟩:=hmem hz
    refine (I.avoid x hx z hzp b hb (fun e=>hzn e.symm)).resolve_left fun hbf=>?_
    have:=(xk.1 hzp).2
    rw [hbef hbf] at this;cases this
  have hsub: ∀b,b∈zaf (A++B)→b∈zaf (xg listed late):=fun b hb=>by
    obtain ⟨z,h1,h2⟩:=y0.1 hb
    exact y0.2 ⟨z,(hmem h1).1,h2⟩
  refine ⟨A,B,hAB,hpe,f1,f2,f3,hav,fun a' w' ρ' htm hst=>?_⟩
  refine {I with
    size:=by simp [I.size]
    down:=fun i o hi ho e he=>?_
    real:=fun i hi=>?_
    virt:=fun p hp=>?_
    avoid:=fun y hy z hz b hb hyz=>I.avoid y (hmem (hpe ▸ hy)).1 z (hmem (hpe ▸ hz)).1 b hb hyz
    tmr:=htm
    chain:=by rw [hpe];exact f4
    step:=by rw [hpe];exact hst
    a1:=fun t v hv=>?_
    a2:=fun c el ps hc hcc=>?_}
  ·rw [zci hlt] at hi ⊢
   rcases hi with rfl|hi
   ·rw [I.get x hxl] at ho;cases ho;exact .inr (hrd e he)
   ·exact .inr (I.down i o hi ho e he)
  ·rw [zci hlt] at hi
   rcases hi with rfl|hi
   ·exact I.along.mem x hxl
   ·exact I.real i hi
  ·rw [zci hlt]
   rcases I.virt p hp with h|h
   ·exact .inl (.inr h)
   ·exact .inr h
  ·rw [hpe]
   rw [xm] at hv
   split at hv
   ·cases hv
    refine ztb f2 fun b hb=>?_
    obtain ⟨z,h1,h2⟩:=y0.1 hb
    exact (hav z h1 b h2).1
   ·exact SV.ok_mono (fun y hy h=>hy (hsub y h)) v (I.a1 t v hv)
  ·rw [hpe] at hc ⊢
   by_cases hcp:c∈zaf (xg listed late)
   ·obtain ⟨z,h1,h2⟩:=y0.1 hcp
    have hzx:z=x:=by
      rw [hAB] at h1
      rcases List.mem_append.1 h1 with h|h
      ·exact absurd (y0.2 ⟨z,by simp [h],h2⟩) hc
      ·rcases List.mem_cons.1 h with h|h
       ·exact h
       ·exact absurd (y0.2 ⟨z,by simp [h],h2⟩) hc
    subst hzx
    refine z5c (I.hpok c el ps hcc) fun b hb=>?_
    obtain ⟨y,g1,g2⟩:=y0.1 hb
    exact (hav y g1 b g2).2 c el ps h2 hcc
   ·exact yz (fun y hy h=>hy (hsub y h)) _ (I.a2 c el ps hcp hcc)
theorem Inv.exec (hE: ∀w',Ext (zgq ρ0 hp0) w0 w'→Γ.E w') (I:Inv P Γ ops K ρ0 hp0 w0 listed a w pre ss late tm hp ρ tmR) {x:Late} (hx:x∈xg listed late) (hrd: ∀e∈x5 x.o,listed.getD e false=true) {Kc:Act→World→Prop}
    (hK: ∀a' w' ρ' tmR',Inv P Γ ops K ρ0 hp0 w0 (listed.setIfInBounds x.i true) a' w' pre ss late tm hp ρ' tmR'→Kc a' w'):wpOp P ops Q x.i Kc a w:=by
  obtain ⟨hxl,hxu⟩:=xk.1 hx
  have hbef: ∀{k:Nat},Before ops k x.i→listed.getD k false=true:=fun hb=>
    hb.listed (L:=fun i=>listed.getD i false=true) I.down fun o ho e he=>hrd e (by rw [I.get x hxl] at ho;cases ho;exact he)
  obtain ⟨A,B,hAB,hpe,f1,f2,f3,hav,hI⟩:=I.core hx hrd
  have hsame:(∀b,x.k≠ .maker b)→ ∀b,b∈zaf (xg listed late)→b∈zaf (A++B):=fun hk b hb=>by
    obtain ⟨z,h1,h2⟩:=y0.1 hb
    rw [hAB] at h1
    rcases List.mem_append.1 h1 with h|h
    ·exact y0.2 ⟨z,by simp [h],h2⟩
    ·rcases List.mem_cons.1 h with h|h
     ·subst h;exact absurd h2 (hk b)
     ·exact y0.2 ⟨z,by simp [h],h2⟩
  unfold zbb at f1
  split at f1
  ·rename_i hk
   have hst:Step ρ0 hp0 w0 ρ (mask (zaf (A++B)) hp) w:=I.step.sub (by simp [yh]) fun k el ps hkk=>by
     rw [xc] at hkk ⊢
     exact ⟨fun h=>hkk.1 (hsame (fun b h=>by rw [hk] at h;cases h) k h),hkk.2⟩
   exact (f1 ρ a I.tmr).wpOp (I.get x hxl) (hK _ _ _ _ (hI _ w ρ (I.tmr.put f3 f2) hst))
  ·rename_i M hk
   have hst:Step ρ0 hp0 w0 ρ (mask (zaf (A++B)) hp) w:=I.step.sub (by simp [yh]) fun k el ps hkk=>by
     rw [xc] at hkk ⊢
     exact ⟨fun h=>hkk.1 (hsame (fun b h=>by rw [hk] at h;cases h) k h),hkk.2⟩
   have hrel:HpRel ρ (mask M hp) w:=I.step.rel.sub fun k el ps hkk=>by
     rw [xc] at hkk ⊢
     refine ⟨⟨fun h=>hkk.1 ?_,hkk.2⟩,by rw [yh];exact I.hpok k el ps hkk.2⟩
     obtain ⟨z,h1,h2⟩:=y0.1 h
     refine (I.rmask x hxl M hk z (xk.1 h1).1 k h2).resolve_left fun hb=>?_
     have:=(xk.1 h1).2
     rw [hbef hb] at this;cases this
   exact zca (I.get x hxl) (f1.1 ρ a I.tmr) (f1.2 ρ a w I.tmr hrel (hE w I.step.ext)) (hK _ _ _ _ (hI _ w ρ (I.tmr.put f3 f2) hst))
  ·rename_i b hk
   obtain ⟨hw,el,ps,h1,h2,h3,h4,h5⟩:=f1
   have hbp:b∈zaf (xg listed late):=y0.2 ⟨x,hx,hk⟩
   obtain ⟨hb0,hbl⟩:=I.mblk x hxl b hk
   have htm:TmRel Γ.nt (upd ρ b w.heap.size) hp.length tmR a:=I.tmr.re fun t v hv=>
     SV.den_congr (p:=(· ∉zaf (xg listed late))) (fun k hk'=>by
       have:k≠b:=fun e=>hk' (e ▸ hbp)
       simp [upd,this]) v (I.a1 t v hv)
   refine zca (I.get x hxl) (hw ρ a I.tmr) (h5 ρ a I.tmr (upd ρ b w.heap.size) w (by simp [upd])) (hK _ _ _ _ (hI _ _ (upd ρ b w.heap.size) (htm.put f3 f2) ?_))
   refine I.step.place hb0 (by rwa [yh]) (fun el ps h=>(xc.1 h).1 hbp) (el:=el) (by rwa [yh]) h4 (fun k el' qs hkk=>?_) (by simp [yh]) (fun k el' qs hkk=>?_)
   ·rw [xc] at hkk
    exact yz (fun y (hy:y∉zaf (xg listed late)) (e:y=b)=>hy (by rw [e];exact hbp)) _ (I.a2 k el' qs hkk.1 hkk.2)
   ·rw [xc] at hkk
    by_cases hkb:k=b
    ·subst hkb
     rw [h1] at hkk
     have:=hkk.2
     cases this
     exact .inr ⟨rfl,rfl,rfl⟩
    ·refine .inl ⟨hkb,xc.2 ⟨fun h=>?_,hkk.2⟩⟩
     obtain ⟨z,g1,g2⟩:=y0.1 h
     rw [hAB] at g1
     rcases List.mem_append.1 g1 with h|h
     ·exact hkk.1 (y0.2 ⟨z,by simp [h],g2⟩)
     ·rcases List.mem_cons.1 h with h|h
      ·subst h;rw [hk] at g2;cases g2;exact hkb rfl
      ·exact hkk.1 (y0.2 ⟨z,by simp [h],g2⟩)
def zo8 (Γ:Ctx) (all:List Oper) (s:PStep) (ss:List PStep) (o:Oper) (late:List Late) (tm:List (Nat×SV)) (hp:List Blk) (K:St→Prop):Prop:=
  zcg s.loose late fun M=>zl6 M hp fun hm=>zcm Γ o.op tm hm
          (fun v hp1=>zfd M v (zec M hp1 (zgi hp M hp1 fun hp2=>zd0 Γ.nt tm hp2 o.dst v fun st=>match st with|⟨tm',hp'⟩=>reK Γ tm' hp' s.loose late (zfg Γ all ss late tm' hp' K))))
          (fun hp1=>zec M hp1 (zgi hp M hp1 fun hp2=>match o.dst with
            |none=>reK Γ tm hp2 s.loose late (zfg Γ all ss late tm hp2 K)
            |some _=>False))
theorem z0i (hns: ∀(j:Nat) (o:Oper) cs b,ops[j]?=some o→o.op≠ .select cs b) {o:Oper} {i:Nat} (ho:ops[i]?=some o): ∀{xs:List Late} {tm tm':List (Nat×SV)} {a:Act},zas P Γ ops hp tm xs tm'→TmRel Γ.nt ρ hp.length tm a→
    (∀y∈xs,∀d,y.o.dst=some d→d∉o.looksAt ops)→
    ∃a',TmRel Γ.nt ρ hp.length tm' a'∧execOp a'.eval o=execOp a.eval o∧Region.wanted o (yielded ops a'.tmps)=Region.wanted o (yielded ops a.tmps)
  | [],_,_,a,h,ht,_=>⟨a,ht.same fun t=>(h t).symm,rfl,rfl⟩
  |x ::xs,_,_,a,⟨_,h2,h3,h4⟩,ht,hd=>by
   obtain ⟨a',g1,g2,g3⟩:=z0i hns ho h4 (ht.put h3 h2) (fun y hy=>hd y (by simp [hy]))
   exact ⟨a',g1,by rw [g2,execOp_put o (fun cs b=>hns _ _ cs b ho) a _ _ (hd x (by simp))],by rw [g3,wanted_put o a _ _ (hd x (by simp))]⟩
theorem Inv.anchor (hΓ:CtxOK P Γ) (I:Inv P Γ ops K ρ0 hp0 w0 listed a w pre (s ::ss) late tm hp ρ tmR) {o:Oper} {T':Table} (S:StepOK Γ ops pre s ss o) (hT:zga ops T') (hpl:ze8 ops Γ (s ::pre) ss T'=true)
    (hka:zbx Γ o.op= .anchor) (hw:zig Γ ops hp.length o tm) (hvc:zo8 Γ ops.toList s ss o late tm hp K) (hrd: ∀e∈x5 o,listed.getD e false=true) {Kc:Act→World→Prop}
    (hK: ∀a' w' hp' ρ' tm' tmR',Inv P Γ ops K ρ0 hp0 w0 (listed.setIfInBounds s.i true) a' w' (s ::pre) ss late tm' hp' ρ' tmR'→Kc a' w'):wpOp P ops Q s.i Kc a w:=by
  have hns: ∀(j:Nat) (o:Oper) cs b,ops[j]?=some o→o.op≠ .select cs b:=I.nsel
  have hlt:s.i<listed.size:=by rw [I.size];exact (Array.getElem?_eq_some_iff.1 S.get).1
  have hne: ∀x∈late,x.i≠s.i:=fun x hx=>by obtain ⟨p,h1,h2⟩:=I.along.mem x hx;rw [←h2];exact S.new p h1
  have hbef: ∀{k:Nat},Before ops k s.i→listed.getD k false=true:=fun hb=>
    hb.listed (L:=fun i=>listed.getD i false=true) I.down fun o' ho' e he=>hrd e (by rw [S.get] at ho';cases ho';exact he)
  have hlo: ∀x∈xg listed late,x.i∈s.loose∧x.o.apart ops o=true:=fun x hx=>by
    obtain ⟨hxl,hxu⟩:=xk.1 hx
    obtain ⟨p,h1,h2⟩:=I.along.mem x hxl
    rcases S.pairs p h1 with ⟨g1,y,g2,g3⟩|⟨g1,g2⟩
    ·rw [h2] at g1 g2
     rw [I.get x hxl] at g2
     cases g2
     exact ⟨g1,g3⟩
    ·rw [h2] at g2;rw [hbef g2] at hxu;cases hxu
  have hpe:xg (listed.setIfInBounds s.i true) late=xg listed late:=by
    unfold xg
    congr 1
    apply List.filter_congr
    intro y hy
    rw [getD_set_ne false (fun h=>hne y hy h.symm)]
  obtain ⟨htm,hxs⟩:=zja I.chain I.tmr.okay
  obtain ⟨a1,ha1,hex,hwa⟩:=z0i hns S.get I.chain I.tmr fun y hy d hd=>(Oper.apart_spec (hlo y hy).2).1 d hd
  have hwant:Region.wanted o (yielded ops a.tmps)=true:=by rw [←hwa];exact hw ρ a1 ha1
  have hD: ∀b∈zaf (xg listed late),b∈za5 s.loose late:=fun b hb=>by
    obtain ⟨z,h1,h2⟩:=y0.1 hb
    exact zbk.2 ⟨z,(xk.1 h1).1,h2,(hlo z h1).1⟩
  have hM: ∀b∈za5 s.loose late,b<hp.length:=fun b hb=>by
    obtain ⟨z,h1,h2,_⟩:=zbk.1 hb
    exact (I.mblk z h1 b h2).2
  have h1:=zm3 (zdb hvc)
  clear hvc
  generalize hMd:za5 s.loose late=M at*
  have hrel:HpRel ρ (mask M hp) w:=I.step.rel.sub fun k el ps hk=>by
    rw [xc] at hk ⊢
    exact ⟨⟨fun h=>hk.1 (hD k h),hk.2⟩,by rw [yh];exact I.hpok k el ps hk.2⟩
  have core: ∀(v:SV) (ρ':Nat→Nat) (hp1:List Blk) (w':World) (tm':List (Nat×SV)),v.ok (· <hp1.length)→v.ok (· ∉M)→Step ρ (mask M hp) w ρ' hp1 w'→(∀d,o.dst=some d→d<Γ.nt)→
   zec M hp1 (zgi hp M hp1 fun hp2=>tm'=zbn tm o.dst v∧reK Γ tm' hp2 s.loose late (zfg Γ ops.toList ss late tm' hp2 K))→Kc (a.put o.dst (v.den ρ')) w':=by
    intro v ρ' hp1 w' tm' hv hvM T hd hf
    obtain ⟨hf,hfree⟩:=zj9 hf
    obtain ⟨⟨rfl,hf⟩,hMl⟩:=zm7 hf
    obtain ⟨hvc,hre⟩:=z1j hf
    have hget: ∀k,(zdl hp M hp1)[k]?=if k∈M then hp[k]? else hp1[k]?:=fun k=>znt hMl
    have hlen:(zdl hp M hp1).length=hp1.length:=zid
    have hle:hp.length≤(zdl hp M hp1).length:=by have:=T.le;rw [yh] at this;omega
    have hsame: ∀k,k<hp.length→ρ' k=ρ k:=fun k hk=>T.same k (by rwa [yh])
    have hst:=I.step.through hD hM T hlen hget
    have htm':TmRel Γ.nt ρ' (zdl hp M hp1).length (zbn tmR o.dst v) (a.put o.dst (v.den ρ')):=(I.tmr.later hsame hle).put hd (by rw [hlen];exact hv)
    refine hK _ _ _ ρ' _ (zbn tmR o.dst v) {I with
      size:=by simp [I.size]
      down:=fun i o' hi ho e he=>?_
      real:=fun i hi=>?_
      virt:=fun p hp=>?_
      along:= .skip I.along
      mblk:=fun z hz b hb=>by have:=I.mblk z hz b hb;exact ⟨this.1,by omega⟩
      avoid:=fun y hy z hz b hb hyz=>?_
      tmr:=htm'
      chain:=?_
      step:=by rw [hpe];exact hst
      hpok:=fun k el ps hk=>?_
      a1:=fun t u hu=>?_
      a2:=fun c el ps hc hcc=>?_
      plan:=⟨T',hT,hpl⟩
      vc:=hvc}
    ·rw [zci hlt] at hi ⊢
     rcases hi with rfl|hi
     ·rw [S.get] at ho;cases ho;exact .inr (hrd e he)
     ·exact .inr (I.down i o' hi ho e he)
    ·rw [zci hlt] at hi
     rcases hi with rfl|hi
     ·exact ⟨s,by simp,rfl⟩
     ·obtain ⟨p,h1,h2⟩:=I.real i hi;exact ⟨p,by simp [h1],h2⟩
    ·rw [zci hlt]
     rcases List.mem_cons.1 hp with rfl|hp
     ·exact .inl (.inl rfl)
     ·rcases I.virt p hp with h|h
      ·exact .inl (.inr h)
      ·exact .inr h
    ·rw [hpe] at hy hz
     rcases I.avoid y hy z hz b hb hyz with h|⟨h,h'⟩
     ·exact .inl h
     ·refine .inr ⟨h,fun c el ps hc hcc=>h' c el ps hc ?_⟩
      rw [hget,if_pos (hD c (y0.2 ⟨y,hy,hc⟩))] at hcc
      exact hcc
    ·rw [hpe]
     obtain ⟨hself,hpair⟩:(∀x∈xg listed late,∀M,x.k= .read M→(∀e,x.o.dst=some e→e∉x.o.looksAt ops))∧
         ((xg listed late).Pairwise fun x y=> ∀M,x.k= .read M→ ∀e,y.o.dst=some e→e∉x.o.looksAt ops):=by
       obtain ⟨g1,g2⟩:=z8s I.along (S.reads hka) I.get
       refine ⟨fun x hx M' hM'=>(g1 x (xk.1 hx).1 (I.rkind x (xk.1 hx).1 M' hM') (hlo x hx).1).1,?_⟩
       have g3:(xg listed late).Pairwise fun x y=>zbx Γ x.o.op= .read→x.i∈s.loose→ ∀e,y.o.dst=some e→e∉x.o.looksAt ops:=by
         unfold xg
         rw [List.pairwise_reverse]
         exact g2.filter _
       refine g3.imp_of_mem fun {x y} hx hy h M' hM'=>h (I.rkind x (xk.1 hx).1 M' hM') (hlo x hx).1
     refine I.chain.anchor hns hle rfl hd (by rw [hlen];exact hv) I.tmr.okay (fun x hx=>⟨I.get x (xk.1 hx).1,(hlo x hx).2⟩) (fun x hx b hb=>by rw [hget,if_pos (hD b (y0.2 ⟨x,hx,hb⟩))])
       (fun x hx M' hM' ρ2 a2 w2 ht2 hw2 hE2=>?_) hpair hself
     obtain ⟨u,rfl,_,hr⟩:=zmt (P:=P) hΓ hw2 (by rw [yh];exact ht2) x.o (hre x (xk.1 hx).1 M' hM' (hlo x hx).1)
     exact hr hE2
    ·rw [hlen]
     rw [hget] at hk
     split at hk
     ·exact yz (fun x hx=>by omega) _ (I.hpok k el ps hk)
     ·exact (T.rel.mem k el ps hk).1
    ·rw [hpe]
     rw [xm] at hu
     split at hu
     ·cases hu;exact SV.ok_mono (fun x hx h=>hx (hD x h)) v hvM
     ·exact I.a1 t u hu
    ·rw [hpe] at hc ⊢
     rw [hget] at hcc
     split at hcc
     ·exact I.a2 c el ps hc hcc
     ·exact yz (fun x hx h=>hx (hD x h)) _ (hfree c el ps _ hcc (T.rel.mem c el ps hcc).1)
  have hval: ∀(v:SV) (ρ':Nat→Nat) (hp1:List Blk) (w':World),v.ok (· <hp1.length)→Step ρ (mask M hp) w ρ' hp1 w'→
   zfd M v (zec M hp1 (zgi hp M hp1 fun hp2=>zd0 Γ.nt tm hp2 o.dst v fun st=>match st with|⟨tm',hp'⟩=>reK Γ tm' hp' s.loose late (zfg Γ ops.toList ss late tm' hp' K)))→Kc (a.put o.dst (v.den ρ')) w':=by
    intro v ρ' hp1 w' hv T hf
    obtain ⟨hvM,hf⟩:=zmr hv hf
    have hd: ∀d,o.dst=some d→d<Γ.nt:=(zej (zm7 (zj9 hf).1).1).1
    refine core v ρ' hp1 w' (zbn tm o.dst v) hv hvM T hd ?_
    have h2: ∀hp2,(zd0 Γ.nt tm hp2 o.dst v fun st=>match st with|⟨tm',hp'⟩=>reK Γ tm' hp' s.loose late (zfg Γ ops.toList ss late tm' hp' K))→
     (zbn tm o.dst v=zbn tm o.dst v∧reK Γ (zbn tm o.dst v) hp2 s.loose late (zfg Γ ops.toList ss late (zbn tm o.dst v) hp2 K)):=fun hp2 h=>⟨rfl,(zej h).2⟩
    exact zh3 hf fun h=>zlw h h2
  rcases zrr hΓ hrel (by rw [yh];exact ha1) o h1 with ⟨v,ρ',hp1,w',hr,hv,T,hf⟩|⟨hp1,w',hr,T,hf⟩|⟨f,args,hr,hc⟩
  ·rw [hex] at hr
   exact zca S.get hwant hr (hval v ρ' hp1 w' hv T hf)
  ·rw [hex] at hr
   unfold wpOp
   simp only [S.get,hwant,if_true,Oper.wp,hr,Oper.upon]
   refine .inl ?_
   have hdn:o.dst=none:=by
     have:=(zm7 (zj9 hf).1).1
     cases hd:o.dst with
     |none=>rfl
     |some d=>rw [hd] at this;exact this.elim
   have:=core (.tup []) ρ hp1 w' tm (by simp [SV.ok,okL]) (by simp [SV.ok,okL]) (by
     exact T) (fun d hd=>by rw [hdn] at hd;cases hd) (zh3 hf fun h=>zlw h fun hp2 h=>by
       rw [hdn] at h;rw [hdn];exact ⟨rfl,h⟩)
   rw [hdn] at this ⊢
   exact this
  ·rw [hex] at hr
   unfold wpOp
   simp only [S.get,hwant,if_true,Oper.wp,hr,Oper.upon]
   refine .inl (hc.mono fun e w' ⟨v,ρ',hp1,he,hv,T,hf⟩=>?_)
   subst he
   exact hval v ρ' hp1 w' hv T hf
end
end Go.Sym

namespace Go.Sym
section
variable {P:Program} {Γ:Ctx} {ops:Array Oper} {Q:Exit→Act→World→Prop} {K:St→Prop} {ρ0:Nat→Nat} {hp0:List Blk} {w0:World}
variable {listed:Array Bool} {a:Act} {w:World} {pre ss:List PStep} {s:PStep} {late:List Late} {tm:List (Nat×SV)} {hp:List Blk} {ρ:Nat→Nat} {tmR:List (Nat×SV)}
theorem zrv: ∀{xs:List Late} {tm tm':List (Nat×SV)} {a:Act},zas P Γ ops hp tm xs tm'→TmRel Γ.nt ρ hp.length tm a→ ∃a',TmRel Γ.nt ρ hp.length tm' a'
  | [],_,_,a,h,ht=>⟨a,ht.same fun t=>(h t).symm⟩
  |_ ::_,_,_,_,⟨_,h2,h3,h4⟩,ht=>zrv h4 (ht.put h3 h2)
theorem TmRel.any {nt n:Nat} (h:TmRel nt ρ n tm a) (ρ':Nat→Nat): ∃a',TmRel nt ρ' n tm a':=by
  refine ⟨{a with tmps:=(Array.range nt).map fun t=>((y8 tm t).map (SV.den ρ')).getD undef},by simp,h.defers,fun t v hv=>⟨(h.val t v hv).1,?_⟩⟩
  have ht:t<nt:=by
    have:=(Array.getElem?_eq_some_iff.1 (h.val t v hv).2).1
    rwa [h.size] at this
  simp [ht,hv]
def z0w (w:World) (hp:List Blk):World:={w with heap:=(hp.map fun b=>match b with
  | .mk el ps=>Obj.cells (zw id ps).toArray el (0,0)
  | .dead=>Obj.cells #[] 0 (0,0)).toArray}
theorem zv4 (hok: ∀(k:Nat) el ps,hp[k]?=some (Blk.mk el ps)→okL (· <hp.length) ps):HpRel id hp (z0w w hp):=
  ⟨fun k el ps hk=>⟨hok k el ps hk,el,(0,0),by simp [z0w,hk],.inl (Nat.le_refl _)⟩,fun _ _ _ _ _ _ _ _ h=>h⟩
theorem Inv.saturate (hΓ:CtxOK P Γ): ∀{ss:List PStep} {pre:List PStep} {late:List Late} {tm:List (Nat×SV)} {hp:List Blk},Inv P Γ ops K ρ0 hp0 w0 listed a w pre ss late tm hp ρ tmR→
    ∃pre' ss' late' tm' hp',pre'.reverse++ss'=pre.reverse++ss∧Inv P Γ ops K ρ0 hp0 w0 listed a w pre' ss' late' tm' hp' ρ tmR∧(ss'= []∨ ∃s ss'' o T',ss'=s ::ss''∧StepOK Γ ops pre' s ss'' o∧zga ops T'∧ze8 ops Γ (s ::pre') ss'' T'=true∧
     zbx Γ o.op= .anchor∧zig Γ ops hp'.length o tm'∧zo8 Γ ops.toList s ss'' o late' tm' hp' K)
  | [],pre,late,tm,hp,I=>⟨pre,[],late,tm,hp,rfl,I,.inl rfl⟩
  |s ::ss,pre,late,tm,hp,I=>by
   obtain ⟨T,hT,hpl⟩:=I.plan
   obtain ⟨o,T',S,hT',hpl'⟩:=yb1 hT hpl
   have hvc:=I.vc
   rw [z3w] at hvc
   obtain ⟨o',ho',hvc⟩:=zdo hvc
   have:o'=o:=by
     have:=S.get
     rw [←Array.getElem?_toList,ho'] at this
     exact Option.some.inj this
   subst this
   obtain ⟨htm,hxs⟩:=zja I.chain I.tmr.okay
   obtain ⟨a1,ha1⟩:=zrv I.chain I.tmr
   have again: ∀{late':List Late} {tm':List (Nat×SV)} {hp':List Blk},Inv P Γ ops K ρ0 hp0 w0 listed a w (s ::pre) ss late' tm' hp' ρ tmR→
    ∃pre' ss' late' tm' hp',pre'.reverse++ss'=pre.reverse++(s ::ss)∧Inv P Γ ops K ρ0 hp0 w0 listed a w pre' ss' late' tm' hp' ρ tmR∧(ss'= []∨ ∃s ss'' o T',ss'=s ::ss''∧StepOK Γ ops pre' s ss'' o∧zga ops T'∧ze8 ops Γ (s ::pre') ss'' T'=true∧
     zbx Γ o.op= .anchor∧zig Γ ops hp'.length o tm'∧zo8 Γ ops.toList s ss'' o late' tm' hp' K):=fun J=>by
     obtain ⟨p,q,l,t,h,e,r⟩:=J.saturate hΓ
     exact ⟨p,q,l,t,h,by rw [e];simp,r⟩
   rcases zwe (Γ:=Γ) (n:=hp.length) hvc with ⟨hw,hy⟩|⟨hw,hn⟩
   ·cases hk:zbx Γ o'.op with
    |anchor=>
     rw [hk] at hy
     exact ⟨pre,s ::ss,late,tm,hp,rfl,I,.inr ⟨s,ss,o',T',rfl,S,hT',hpl',hk,hw,hy⟩⟩
    |pure=>
     rw [hk] at hy
     dsimp only at hy
     obtain ⟨v,h1,h2⟩:=ych o'.op tm _ hy
     have h3:=zdb h1
     obtain ⟨u,hu,hv,_⟩:=zuf (P:=P) hΓ ha1 o' (h2 (fun u=>u=v) rfl)
     subst hu
     obtain ⟨hvM,h4⟩:=zmr hv h3
     obtain ⟨hd,h5⟩:=zej h4
     refine again (I.absorb S hT' hpl' (v:=u) (k:= .pure) (fun b h=>by cases h) (fun M h=>by cases h) (fun ρ a ht=> .inl ⟨hw ρ a ht,?_⟩) hv hvM hd h5)
     obtain ⟨x,hx,_,hr⟩:=zuf (P:=P) hΓ ht o' (h2 (fun x=>x=u) rfl)
     subst hx
     exact hr
    |read=>
     rw [hk] at hy
     dsimp only at hy
     have h0:=zm3 (zdb hy)
     obtain ⟨v,h1,h2⟩:=zz0 o'.op tm (mask (za5 s.loose late) hp) _ h0
     have hokm: ∀(k:Nat) el ps,(mask (za5 s.loose late) hp)[k]?=some (Blk.mk el ps)→okL (· <(mask (za5 s.loose late) hp).length) ps:=fun k el ps hk=>by
       rw [yh];exact I.hpok k el ps (xc.1 hk).2
     obtain ⟨a2,ha2⟩:=ha1.any id
     obtain ⟨u,hu,hv,_⟩:=zmt (P:=P) hΓ (zv4 (w:=w) hokm) (by rw [yh];exact ha2) o' (h2 (fun u=>u=v) rfl)
     subst hu
     rw [yh] at hv
     obtain ⟨hvM,h4⟩:=zmr hv h1
     obtain ⟨hd,h5⟩:=zej h4
     refine again (I.absorb S hT' hpl' (v:=u) (k:= .read (za5 s.loose late)) (fun b h=>by cases h) (fun M h=>by cases h;exact ⟨hk,rfl⟩) ⟨hw,fun ρ a w ht hwr hE=>?_⟩ hv hvM hd h5)
     obtain ⟨x,hx,_,hr⟩:=zmt (P:=P) hΓ hwr (by rw [yh];exact ht) o' (h2 (fun x=>x=u) rfl)
     subst hx
     exact hr hE
    |maker=>
     rw [hk] at hy
     dsimp only at hy
     have h0:=zev (zdb hy)
     obtain ⟨⟨v,b⟩,h1,h2⟩:=z4z o'.op tm hp.length (fun p:SV×Blk=>match p.2 with
       | .mk el ps=>zfd (za5 s.loose late) (.agg ps) (zgk hp (.mk el ps) fun hp1=>zd0 Γ.nt tm hp1 o'.dst p.1 fun st=>match st with|⟨tm',hp'⟩=>zfg Γ ops.toList ss (⟨s.i,o',p.1,.maker hp.length⟩ ::addM hp.length late) tm' hp' K)
       | .dead=>False) h0
     cases b with
     |dead=>exact h1.elim
     |mk el ps=>
      dsimp only at h1
      have key: ∀(ρ:Nat→Nat) a,TmRel Γ.nt ρ hp.length tm a→v.ok (· =hp.length)∧okL (· <hp.length) ps∧ ∀(ρ1:Nat→Nat) w,ρ1 hp.length=w.heap.size→(execOp a.eval o').run P w= .ok (.value (v.den ρ1)) (w.alloc (.cells (zw ρ ps).toArray el)):=fun ρ a ht=>by
        obtain ⟨u,el',qs,hu,hv,hq,hr⟩:=zwj (P:=P) hΓ ht o' (h2 (fun p=>p=(v,.mk el ps)) rfl)
        cases hu
        exact ⟨hv,hq,hr⟩
      obtain ⟨hv,hq,_⟩:=key ρ a1 ha1
      obtain ⟨hvM,h4⟩:=zmr (v:= .agg ps) hq h1
      have h5:=zc7 h4
      obtain ⟨hd,h6⟩:=zej h5
      exact again (I.absorbM S hT' hpl' hw hv hq (fun ρ a ht=>(key ρ a ht).2.2) hvM hd h6)
   ·obtain ⟨hd,h5⟩:=zej hn
    exact again (I.absorb S hT' hpl' (v:= .tup []) (k:= .pure) (fun b h=>by cases h) (fun M h=>by cases h) (fun ρ a ht=> .inr ⟨hw ρ a ht,rfl⟩) (by simp [SV.ok,okL]) (by simp [SV.ok,okL]) hd h5)
def unl (listed:Array Bool) (n:Nat):Nat:=(List.range n).countP fun i=>!listed.getD i false
theorem zrj {p q:Nat→Bool}: ∀{l:List Nat} {i:Nat},(∀x,q x=true→p x=true)→i∈l→p i=true→q i=false→l.countP q<l.countP p
  |x ::xs,i,h,hi,hp,hq=>by
   have hle:xs.countP q≤xs.countP p:=List.countP_mono_left fun x _ hx=>h x hx
   rw [List.countP_cons,List.countP_cons]
   rcases List.mem_cons.1 hi with rfl|hi
   ·rw [hp,hq];simp;omega
   ·have:=zrj h hi hp hq
    cases hqx:q x with
    |true=>rw [h x hqx];simp;omega
    |false=>cases p x<;>simp<;>omega
theorem ybc {i:Nat} (hi:i<ops.size) (hs:listed.size=ops.size) (hu:listed.getD i false=false):unl (listed.setIfInBounds i true) ops.size<unl listed ops.size:=by
  refine zrj (i:=i) (fun x hx=>?_) (List.mem_range.2 hi) (by rw [hu];rfl) ?_
  ·cases h:listed.getD x false with
   |false=>rfl
   |true=>
    rw [(zci (by rw [hs];exact hi)).2 (.inr h)] at hx;cases hx
  ·rw [(zci (by rw [hs];exact hi)).2 (.inl rfl)];rfl
theorem zs7 (hs:listed.size=ops.size) {i:Nat} (hi:i<ops.size):listed.getD i true=listed.getD i false:=by
  have:i<listed.size:=by rw [hs];exact hi
  simp [this]
theorem Inv.any (hΓ:CtxOK P Γ) (hE: ∀w',Ext (zgq ρ0 hp0) w0 w'→Γ.E w') (order:List PStep) (hall: ∀i<ops.size,∃p∈order,p.i=i) (hord: ∀(l r:List PStep) p,order=l++p ::r→ ∃o,ops[p.i]?=some o∧ ∀e∈x5 o,∃x∈l,x.i=e)
    (hQ: ∀a' w' ρ' tm' hp',K ⟨tm',hp'⟩→TmRel Γ.nt ρ' hp'.length tm' a'→Step ρ0 hp0 w0 ρ' hp' w'→Q .normal a' w'):
    ∀(fuel:Nat) {listed:Array Bool} {a:Act} {w:World} {pre ss:List PStep} {late:List Late} {tm:List (Nat×SV)} {hp:List Blk} {ρ:Nat→Nat} {tmR:List (Nat×SV)},
     Inv P Γ ops K ρ0 hp0 w0 listed a w pre ss late tm hp ρ tmR→order=pre.reverse++ss→unl listed ops.size≤fuel→wpAny P .any ops Q fuel listed a w:=by
  have some_ready: ∀{listed:Array Bool},listed.size=ops.size→Region.ready .any ops listed= []→ ∀i<ops.size,listed.getD i false=true:=by
    intro listed hs hr
    have key: ∀(n:Nat) (l r:List PStep) (p:PStep),order=l++p ::r→l.length<n→listed.getD p.i false=true:=by
      intro n
      induction n with
      |zero=>intro l r p _ h;omega
      |succ n ih=>
       intro l r p he hn
       obtain ⟨o,ho,hedge⟩:=hord l r p he
       have hpl:p.i<ops.size:=(Array.getElem?_eq_some_iff.1 ho).1
       cases h:listed.getD p.i false with
       |true=>rfl
       |false=>
        have:p.i∈Region.ready .any ops listed:=mem_ready.2 ⟨by rw [zs7 hs hpl,h],o,ho,fun e he2 hb=>by
          obtain ⟨x,hx,hxe⟩:=hedge e.on (zmg.2 ⟨e,he2,hb,rfl⟩)
          obtain ⟨l1,l2,rfl⟩:=List.append_of_mem hx
          rw [←hxe]
          refine ih l1 (l2++p ::r) x (by rw [he];simp) ?_
          simp at hn;omega⟩
        rw [hr] at this;cases this
    intro i hi
    obtain ⟨p,hp,rfl⟩:=hall i hi
    obtain ⟨l,r,he⟩:=List.append_of_mem hp
    exact key (l.length+1) l r p he (by omega)
  intro fuel
  induction fuel with
  |zero=>
   intro listed a w pre ss late tm hp ρ tmR I hpart hf
   have hlist: ∀i<ops.size,listed.getD i false=true:=fun i hi=>by
     have:unl listed ops.size=0:=by omega
     unfold unl at this
     rw [List.countP_eq_zero] at this
     simpa using this i (List.mem_range.2 hi)
   obtain ⟨pre',ss',late',tm',hp',hord',I',hsat⟩:=I.saturate hΓ
   rw [←hpart] at hord'
   have hpend:xg listed late'= []:=by
     unfold xg
     rw [List.filter_eq_nil_iff.2,List.reverse_nil]
     intro x hx
     have:=(Array.getElem?_eq_some_iff.1 (I'.get x hx)).1
     rw [hlist _ this];simp
   refine ⟨List.filter_eq_nil_iff.2 fun i hi=>?_,?_⟩
   ·rw [List.mem_range] at hi
    rw [zs7 I.size hi,hlist i hi];simp
   ·rcases hsat with rfl|⟨s,ss'',o,T',rfl,S,_⟩
    ·have hc:=I'.chain
     have hst:=I'.step
     rw [hpend] at hc hst
     exact hQ _ _ ρ tm' hp' I'.vc (I'.tmr.same fun t=>(hc t).symm) hst
    ·have:=hlist s.i (Array.getElem?_eq_some_iff.1 S.get).1
     obtain ⟨p,h1,h2⟩:=I'.real _ this
     exact absurd h2 (S.new p h1)
  |succ fuel ih=>
   intro listed a w pre ss late tm hp ρ tmR I hpart hf
   obtain ⟨pre',ss',late',tm',hp',hord',I',hsat⟩:=I.saturate hΓ
   rw [←hpart] at hord'
   refine ⟨fun hr=>?_,fun i hi=>?_⟩
   ·have hlist:=some_ready I.size hr
    have hpend:xg listed late'= []:=by
      unfold xg
      rw [List.filter_eq_nil_iff.2,List.reverse_nil]
      intro x hx
      have:=(Array.getElem?_eq_some_iff.1 (I'.get x hx)).1
      rw [hlist _ this];simp
    rcases hsat with rfl|⟨s,ss'',o,T',rfl,S,_⟩
    ·have hc:=I'.chain
     have hst:=I'.step
     rw [hpend] at hc hst
     exact hQ _ _ ρ tm' hp' I'.vc (I'.tmr.same fun t=>(hc t).symm) hst
    ·have:=hlist s.i (Array.getElem?_eq_some_iff.1 S.get).1
     obtain ⟨p,h1,h2⟩:=I'.real _ this
     exact absurd h2 (S.new p h1)
   ·obtain ⟨hun,o,ho,hall'⟩:=mem_ready.1 hi
    have hil:i<ops.size:=(Array.getElem?_eq_some_iff.1 ho).1
    rw [zs7 I.size hil] at hun
    have hrd: ∀e∈x5 o,listed.getD e false=true:=fun e he=>by
      obtain ⟨x,h1,h2,h3⟩:=zmg.1 he
      rw [←h3];exact hall' x h1 h2
    have hdec:=ybc (listed:=listed) hil I.size hun
    by_cases hip: ∃p∈pre',p.i=i
    ·obtain ⟨p,hp1,hp2⟩:=hip
     rcases I'.virt p hp1 with h|⟨x,hx,hxi⟩
     ·rw [hp2,hun] at h;cases h
     ·have hxi':x.i=i:=by rw [hxi,hp2]
      subst hxi'
      have hxo:x.o=o:=by
        have:=I'.get x hx
        rw [ho] at this;exact (Option.some.inj this).symm
      exact I'.exec hE (xk.2 ⟨hx,hun⟩) (by rw [hxo];exact hrd) fun a' w' ρ' tmR' J=>ih J hord'.symm (by omega)
    ·rcases hsat with rfl|⟨s,ss'',o',T',rfl,S,hT',hpl',hka,hw,hav⟩
     ·obtain ⟨p,hp,hpi⟩:=hall i hil
      rw [←hord',List.append_nil,List.mem_reverse] at hp
      exact absurd ⟨p,hp,hpi⟩ hip
     ·have hsi:i=s.i:=by
        obtain ⟨p,hp,hpi⟩:=hall i hil
        rw [←hord'] at hp
        rcases List.mem_append.1 hp with hp|hp
        ·exact absurd ⟨p,List.mem_reverse.1 hp,hpi⟩ hip
        ·rcases List.mem_cons.1 hp with rfl|hp
         ·exact hpi.symm
         ·obtain ⟨u,hu,e,he,hne⟩:=S.forced hka p hp
          rw [hpi,ho] at hu
          cases hu
          obtain ⟨x,hx,hxe⟩:=I'.real e (hrd e he)
          exact absurd hxe (hne x hx)
      subst hsi
      have:o'=o:=by have:=S.get;rw [ho] at this;exact (Option.some.inj this).symm
      subst this
      exact I'.anchor hΓ S hT' hpl' hka hw hav hrd fun a' w' hp2 ρ' tm2 tmR' J=>ih J (by rw [←hord'];simp) (by omega)
theorem zl8 {order:List PStep}: ∀{ss pre:List PStep} {T:Table},ze8 ops Γ pre ss T=true→(∀i,(∃x∈pre,x.i=i)↔ ∃x∈order,x.i=i)→
    ∀(l r:List PStep) p,ss=l++p ::r→ ∃o,ops[p.i]?=some o∧ ∀e∈x5 o,∃x∈order++l,x.i=e
  | [],_,_,_,_,l,r,p,h=>by simp at h
  |s ::ss,pre,T,h,hpre,l,r,p,he=>by
   simp only [ze8] at h
   split at h
   ·cases h
   ·rename_i o ho
    simp only [Bool.and_eq_true] at h
    obtain ⟨⟨⟨⟨_,h2⟩,_⟩,_⟩,h5⟩:=h
    cases l with
    |nil=>
     simp at he
     obtain ⟨rfl,rfl⟩:=he
     refine ⟨o,ho,fun e hee=>?_⟩
     rw [List.all_eq_true] at h2
     obtain ⟨x,hx,hxe⟩:=zhh.1 (h2 e hee)
     obtain ⟨y,hy,hye⟩:=(hpre e).1 ⟨x,hx,hxe⟩
     exact ⟨y,by simp [hy],hye⟩
    |cons q l=>
     simp at he
     obtain ⟨rfl,he⟩:=he
     obtain ⟨o',h1,h3⟩:=zl8 (order:=order++ [s]) h5 (fun i=>by
       constructor
       ·rintro ⟨x,hx,hxi⟩
        rcases List.mem_cons.1 hx with rfl|hx
        ·exact ⟨x,by simp,hxi⟩
        ·obtain ⟨y,hy,hyi⟩:=(hpre i).1 ⟨x,hx,hxi⟩
         exact ⟨y,by simp [hy],hyi⟩
       ·rintro ⟨x,hx,hxi⟩
        rcases List.mem_append.1 hx with hx|hx
        ·obtain ⟨y,hy,hyi⟩:=(hpre i).2 ⟨x,hx,hxi⟩
         exact ⟨y,by simp [hy],hyi⟩
        ·simp at hx;subst hx;exact ⟨x,by simp,hxi⟩) l r p he
     exact ⟨o',h1,fun e hee=>by obtain ⟨x,hx,hxe⟩:=h3 e hee;exact ⟨x,by simpa using hx,hxe⟩⟩
theorem ygk (hΓ:CtxOK P Γ) (hm:P.follows .mixedOrders=true) {id:Nat} {steps:List PStep} (hok:zk5 ops Γ steps=true) {tm:List (Nat×SV)} {hp:List Blk} {ρ:Nat→Nat} {a:Act} {w:World}
    (hE: ∀w',Ext (zgq ρ hp) w w'→Γ.E w') (ht:TmRel Γ.nt ρ hp.length tm a) (hr:HpRel ρ hp w) (h:zfg Γ ops.toList steps [] tm hp K)
    (hQ: ∀a' w' ρ' tm' hp',K ⟨tm',hp'⟩→TmRel Γ.nt ρ' hp'.length tm' a'→Step ρ hp w ρ' hp' w'→Q .normal a' w'):(Code.region id ops true).wp P Q a w:=by
  unfold zk5 at hok
  simp only [Bool.and_eq_true,List.all_eq_true,List.mem_range] at hok
  obtain ⟨⟨hns,hall⟩,hpl⟩:=hok
  refine wp_region_any hm ?_
  have I:Inv P Γ ops K ρ hp w (Array.replicate ops.size false) a {w with drawn:=w.drawn+1} [] steps [] tm hp ρ tm:=
    {size:=by simp
     down:=fun i o hi=>by
       rw [Array.getD_eq_getD_getElem?,Array.getElem?_replicate] at hi
       split at hi<;>simp at hi
     real:=fun i hi=>by
       rw [Array.getD_eq_getD_getElem?,Array.getElem?_replicate] at hi
       split at hi<;>simp at hi
     virt:=fun p hp=>by cases hp
     get:=fun x hx=>by cases hx
     along:= .nil
     nodup:= .nil
     pairs:= .nil
     rkind:=fun x hx=>by cases hx
     rmask:=fun x hx=>by cases hx
     mblk:=fun x hx=>by cases hx
     mone:=fun x hx=>by cases hx
     avoid:=fun y hy=>by simp [xg] at hy
     tmr:=ht
     chain:=fun t=>rfl
     step:=Step.world hr rfl rfl rfl rfl
     hpok:=fun k el ps hk=>(hr.mem k el ps hk).1
     a1:=fun t v hv=>SV.ok_mono (fun x _=>by simp [xg,zaf]) v (ht.okay t v hv)
     a2:=fun k el ps _ hk=>yz (fun x _=>by simp [xg,zaf]) _ (hr.mem k el ps hk).1
     nsel:=fun j o cs b ho=>Region.noSelect_spec hns j o cs b ho
     plan:=⟨[],fun i k hk=>by simp [zri] at hk,hpl⟩
     vc:=h}
  refine I.any hΓ hE steps (fun i hi=>zhh.1 (hall i hi)) (fun l r p he=>?_) hQ ops.size (by simp) ?_
  ·obtain ⟨o,h1,h2⟩:=zl8 (order:= []) hpl (fun i=>by simp) l r p he
   exact ⟨o,h1,fun e hee=>by simpa using h2 e hee⟩
  ·unfold unl
   exact Nat.le_trans List.countP_le_length (by simp)
end
end Go.Sym

namespace Go.Sym
noncomputable def z27 (Γ:Ctx) (all:List Oper) (os:List Oper):List (Nat×SV)→List Blk→(St→Prop)→Prop:=
  List.rec (motive:=fun _=>List (Nat×SV)→List Blk→(St→Prop)→Prop) (fun tm hp K=>K ⟨tm,hp⟩) (fun o _ ih tm hp K=>zll all o tm
    (ya5 Γ o tm hp fun st=>match st with|⟨tm',hp'⟩=>ih tm' hp' K)
    (zd0 Γ.nt tm hp o.dst (.tup []) fun st=>match st with|⟨tm',hp'⟩=>ih tm' hp' K)) os
theorem z3x (Γ:Ctx) (all:List Oper) (o:Oper) (os:List Oper) (tm:List (Nat×SV)) (hp:List Blk) (K:St→Prop):z27 Γ all (o ::os) tm hp K=zll all o tm
    (ya5 Γ o tm hp fun st=>match st with|⟨tm',hp'⟩=>z27 Γ all os tm' hp' K)
    (zd0 Γ.nt tm hp o.dst (.tup []) fun st=>match st with|⟨tm',hp'⟩=>z27 Γ all os tm' hp' K):=rfl
def z9b:Nat→List Nat→Nat→Bool
  |0,_,_=>true
  |_+1,[],_=>false
  |n+1,g ::gs,k=>match Nat.beq g k with|true=>z9b n gs (k+1)|false=>false
def zwd:List Nat→List Blk→Bool
  | [],[]=>true
  |_ ::gs,_ ::bs=>zwd gs bs
  |_,_=>false
def zmd (gl:List Nat) (n:Nat) (hp:List Blk):List Nat→List Blk→Prop→Prop
  |g ::gs,b ::bs,p=>match b with
   | .dead=>zmd gl n hp gs bs p
   | .mk _ ps=>match ziv (fun k=>Nat.blt k n) ps with
     |true=>zfe hp g fun b'=>match b' with
      | .mk _ qs=>zqv (.agg qs) ((SV.agg ps).ren (fwd gl 0)) (zmd gl n hp gs bs p)
      | .dead=>False
     |false=>False
  |_,_,p=>p
def zof (gl:List Nat) (n:Nat) (tm:List (Nat×SV)):List (Nat×SV)→Prop→Prop
  | [],p=>p
  |(t,v) ::r,p=>match v.all (fun k=>Nat.blt k n) with
   |true=>yn tm t fun u=>zqv u (v.ren (fwd gl 0)) (zof gl n tm r p)
   |false=>False
def zdp (n0:Nat) (gl:List Nat) (tm:List (Nat×SV)) (hp:List Blk) (tm':List (Nat×SV)) (hp':List Blk) (p:Prop):Prop:=
  match zwd gl hp',zf3 gl,z9b n0 gl 0 with
  |true,true,true=>zkf gl fun n=>zmd gl n hp gl hp' (zof gl n tm tm' p)
  |_,_,_=>False
def zg7 (n0:Nat) (f:St→(St→Prop)→Prop) (st:St):Prop:=
  ∃(ι:Type) (I:ι→St) (μ:ι→Nat),(∃i gl,zdp n0 gl st.tm st.hp (I i).tm (I i).hp True)∧
   ∀i,f (I i) fun st'=> ∃j gl,μ j<μ i∧zdp n0 gl st'.tm st'.hp (I j).tm (I j).hp True
def zb7 (n0:Nat) (r:SV) (hp:List Blk) (K:SV→List Blk→Prop):Prop:=
  ∃gl r' hp',zdp n0 gl [(0,r)] hp [(0,r')] hp' (K r' hp')
attribute [irreducible] zg7 zb7
theorem yf3 {n0:Nat} {f:St→(St→Prop)→Prop} {st:St} (ι:Type) (I:ι→St) (μ:ι→Nat) (i:ι) (gl:List Nat) (h0:zdp n0 gl st.tm st.hp (I i).tm (I i).hp True)
    (h: ∀i,f (I i) fun st'=> ∃j gl,μ j<μ i∧zdp n0 gl st'.tm st'.hp (I j).tm (I j).hp True):zg7 n0 f st:=by
  unfold zg7;exact ⟨ι,I,μ,⟨i,gl,h0⟩,h⟩
theorem yds {n0:Nat} {f:St→(St→Prop)→Prop} {st:St} (h:zg7 n0 f st): ∃(ι:Type) (I:ι→St) (μ:ι→Nat),(∃i gl,zdp n0 gl st.tm st.hp (I i).tm (I i).hp True)∧
    ∀i,f (I i) fun st'=> ∃j gl,μ j<μ i∧zdp n0 gl st'.tm st'.hp (I j).tm (I j).hp True:=by unfold zg7 at h;exact h
theorem yat {n0:Nat} {r:SV} {hp:List Blk} {K:SV→List Blk→Prop} (gl:List Nat) (r':SV) (hp':List Blk) (h:zdp n0 gl [(0,r)] hp [(0,r')] hp' (K r' hp')):zb7 n0 r hp K:=by
  unfold zb7;exact ⟨gl,r',hp',h⟩
theorem ycp {n0:Nat} {r:SV} {hp:List Blk} {K:SV→List Blk→Prop} (h:zb7 n0 r hp K): ∃gl r' hp',zdp n0 gl [(0,r)] hp [(0,r')] hp' (K r' hp'):=by unfold zb7 at h;exact h
noncomputable def vc (Γ:Ctx) (D:List (Nat×List PStep)) (n0:Nat) (c:Code):List (Nat×SV)→List Blk→(St→Prop)→(Nat→St→Prop)→(St→Prop)→Prop:=
  Code.rec (motive:=fun _=>List (Nat×SV)→List Blk→(St→Prop)→(Nat→St→Prop)→(St→Prop)→Prop)
    (fun tm hp N _ _=>N ⟨tm,hp⟩)
    (fun id ops dr tm hp N _ _=>match dr with
      |false=>z27 Γ ops.toList ops.toList tm hp N
      |true=>yn D id fun steps=>Pre (zk5 ops Γ steps=true) (zfg Γ ops.toList steps [] tm hp N))
    (fun _ _ iha ihb tm hp N X R=>iha tm hp (fun st=>match st with|⟨tm',hp'⟩=>ihb tm' hp' N X R) X R)
    (fun c _ _ iha ihb tm hp N X R=>evK tm c fun v=>match v with
      | .bool t=>ye t (iha tm hp N X R) (ihb tm hp N X R)
      |_=>False)
    (fun id _ ih tm hp N X R=>ih tm hp N (fun i st=>match Nat.beq i id with|true=>N st|false=>X i st) R)
    (fun _ ih tm hp _ X R=>zg7 n0 (fun st N'=>match st with|⟨tm',hp'⟩=>ih tm' hp' N' X R) ⟨tm,hp⟩)
    (fun _ _ _ _ _ _ _ _ _ _ _=>False)
    (fun id tm hp _ X _=>X id ⟨tm,hp⟩)
    (fun _ _ _ _ _ _ _=>False)
    (fun _ tm hp N _ _=>N ⟨tm,hp⟩)
    (fun _ _ _ _ _ _=>False)
    (fun tm hp _ _ R=>R ⟨tm,hp⟩)
    (fun _ _ _ _ _ _=>False)
    c
section
variable {Γ:Ctx} {D:List (Nat×List PStep)} {n0:Nat} {tm:List (Nat×SV)} {hp:List Blk} {N:St→Prop} {X:Nat→St→Prop} {R:St→Prop}
theorem yce {c:Operand} {a b:Code}:vc Γ D n0 (.cond c a b) tm hp N X R=(evK tm c fun v=>match v with
    | .bool t=>ye t (vc Γ D n0 a tm hp N X R) (vc Γ D n0 b tm hp N X R)
    |_=>False):=rfl
theorem ycd {c:Code}:vc Γ D n0 (.loop c) tm hp N X R=zg7 n0 (fun st N'=>match st with|⟨tm',hp'⟩=>vc Γ D n0 c tm' hp' N' X R) ⟨tm,hp⟩:=rfl
end
def zsx (Γ:Ctx) (tm:List (Nat×SV)) (hp:List Blk):List ResultVar→(List SV→Prop)→Prop
  | [],k=>k []
  | .tmp t ::r,k=>yn tm t fun v=>zsx Γ tm hp r fun vs=>k (v ::vs)
  | .cell a t ::r,k=>yn Γ.ty t fun ti=>yn tm a fun v=>match v with
    | .ptr q j b oo=>zee hp q fun _ ps=>zn1 ti ps j b oo fun v=>zsx Γ tm hp r fun vs=>k (v ::vs)
    |_=>False
def z2d (vs:List SV) (k:SV→Prop):Prop:=
  match vs with
  | [v]=>k v
  |vs=>k (.tup vs)
def zth:List SV→Nat→(List (Nat×SV)→Prop)→Prop
  | [],_,k=>k []
  |v ::vs,i,k=>zth vs (i+1) fun tm=>k ((i,v) ::tm)
noncomputable def zzl (Γ:Ctx) (D:List (Nat×List PStep)) (c:Code) (res:List ResultVar) (args:List SV) (hp:List Blk) (K:SV→List Blk→Prop):Prop:=
  zth args 0 fun tm=>zkf hp fun n0=>
    vc Γ D n0 c tm hp (fun st=>match st with|⟨tm',hp'⟩=>zsx Γ tm' hp' res fun vs=>z2d vs fun r=>zb7 n0 r hp' K)
     (fun _ _=>False) (fun st=>match st with|⟨tm',hp'⟩=>zsx Γ tm' hp' res fun vs=>z2d vs fun r=>zb7 n0 r hp' K)
end Go.Sym

namespace Go.Sym
section
variable {P:Program} {Γ:Ctx} {ops:Array Oper} {Q:Exit→Act→World→Prop} {ρ0:Nat→Nat} {hp0:List Blk} {w0:World}
variable {a:Act} {w:World} {tm:List (Nat×SV)} {hp:List Blk} {ρ:Nat→Nat}
def Rel (Γ:Ctx) (ρ0:Nat→Nat) (hp0:List Blk) (w0:World) (st:St) (a:Act) (w:World):Prop:=
  ∃ρ,TmRel Γ.nt ρ st.hp.length st.tm a∧Step ρ0 hp0 w0 ρ st.hp w
theorem yen (hΓ:CtxOK P Γ) (hE: ∀w',Ext (zgq ρ0 hp0) w0 w'→Γ.E w') {i:Nat} {o:Oper} (ho:ops[i]?=some o) (hw:Region.wanted o (yielded ops a.tmps)=true) (ht:TmRel Γ.nt ρ hp.length tm a) (S:Step ρ0 hp0 w0 ρ hp w) {K:St→Prop} (h:ya5 Γ o tm hp K)
    {Kc:Act→World→Prop} (hK: ∀a' w' st,K st→Rel Γ ρ0 hp0 w0 st a' w'→Kc a' w'):wpOp P ops Q i Kc a w:=by
  have hval: ∀(v:SV) (ρ':Nat→Nat) (hp1:List Blk) (w':World),v.ok (· <hp1.length)→Step ρ hp w ρ' hp1 w'→zd0 Γ.nt tm hp1 o.dst v K→Kc (a.put o.dst (v.den ρ')) w':=fun v ρ' hp1 w' hv T hk=>by
    obtain ⟨hd,hk⟩:=zej hk
    exact hK _ _ _ hk ⟨ρ',(ht.later T.same T.le).put hd hv,S.trans T⟩
  unfold ya5 at h
  split at h
  ·obtain ⟨v,h1,hv,hr⟩:=zuf (P:=P) hΓ ht o h
   exact zca ho hw (hr w) (hval v ρ hp w hv (Step.refl S.rel) h1)
  ·obtain ⟨v,h1,hv,hr⟩:=zmt (P:=P) hΓ S.rel ht o h
   exact zca ho hw (hr (hE w S.ext)) (hval v ρ hp w hv (Step.refl S.rel) h1)
  ·have h:=zev h
   obtain ⟨v,el,ps,h1,hv,hps,hr⟩:=zwj (P:=P) hΓ ht o h
   have h1:=zc7 h1
   refine zca ho hw (hr (zg9 ρ hp.length w.heap.size) w x7) (hval v _ _ _ (SV.ok_mono (fun x hx=>by rw [hx];simp) v hv) (Step.alloc (el0:=el) (fz:=(0,0)) S.rel hps rfl (.inl (Nat.le_refl _)) rfl rfl rfl) h1)
  ·rcases zrr (P:=P) hΓ S.rel ht o h with ⟨v,ρ',hp1,w',hr,hv,T,hf⟩|⟨hp1,w',hr,T,hf⟩|⟨f,args,hr,hc⟩
   ·exact zca ho hw hr (hval v ρ' hp1 w' hv T hf)
   ·unfold wpOp
    simp only [ho,hw,if_true,Oper.wp,hr,Oper.upon]
    refine .inl ?_
    cases hd:o.dst with
    |none=>rw [hd] at hf;exact hK _ _ _ hf ⟨ρ,ht.later T.same T.le,S.trans T⟩
    |some d=>rw [hd] at hf;exact hf.elim
   ·unfold wpOp
    simp only [ho,hw,if_true,Oper.wp,hr,Oper.upon]
    refine .inl (hc.mono fun e w' ⟨v,ρ',hp1,he,hv,T,hf⟩=>?_)
    subst he
    exact hval v ρ' hp1 w' hv T hf
theorem zyy (hΓ:CtxOK P Γ) (hE: ∀w',Ext (zgq ρ0 hp0) w0 w'→Γ.E w') {K:St→Prop} (hK: ∀a' w' st,K st→Rel Γ ρ0 hp0 w0 st a' w'→Q .normal a' w'):
    ∀(os:List Oper) (n:Nat) {tm:List (Nat×SV)} {hp:List Blk} {ρ:Nat→Nat} {a:Act} {w:World},(∀k,os[k]?=ops[n+k]?)→TmRel Γ.nt ρ hp.length tm a→Step ρ0 hp0 w0 ρ hp w→z27 Γ ops.toList os tm hp K→
     wpOps P ops Q (List.range' n os.length) a w
  | [],n,tm,hp,ρ,a,w,_,ht,S,h=>hK a w _ h ⟨ρ,ht,S⟩
  |o ::os,n,tm,hp,ρ,a,w,hos,ht,S,h=>by
   have ho:ops[n]?=some o:=by simpa using (hos 0).symm
   have hos': ∀k,os[k]?=ops[n+1+k]?:=fun k=>by
     have:=hos (k+1)
     rw [List.getElem?_cons_succ] at this
     rw [this];congr 1;omega
   rw [List.length_cons,List.range'_succ,wpOps_cons]
   rw [z3x] at h
   rcases zwe (Γ:=Γ) (n:=hp.length) h with ⟨hw,h⟩|⟨hw,h⟩
   ·refine yen (ρ0:=ρ0) (hp0:=hp0) (w0:=w0) hΓ hE ho (hw ρ a ht) ht S h fun a' w' st hst hrel=>?_
    obtain ⟨ρ',ht',S'⟩:=hrel
    exact zyy hΓ hE hK os (n+1) hos' ht' S' hst
   ·obtain ⟨hd,h⟩:=zej h
    unfold wpOp
    simp only [ho,hw ρ a ht,Bool.false_eq_true,if_false]
    exact zyy hΓ hE hK os (n+1) hos' (ht.put hd (v:= .tup []) (by simp [SV.ok,okL])) S h
theorem SV.ok_unren {p:Nat→Prop} (g:Nat→Nat): ∀v:SV,(v.ren g).ok p→v.ok (fun k=>p (g k)):=by
  intro v
  refine SV.rec (motive_1:=fun v=>(v.ren g).ok p→v.ok (fun k=>p (g k))) (motive_2:=fun vs=>okL p (zdj g vs)→okL (fun k=>p (g k)) vs)
    ?_ ?_ ?_ ?_ ?_ ?_ ?_ ?_ ?_ ?_ ?_ ?_ ?_ ?_ ?_ ?_ ?_ ?_ ?_ ?_ ?_ ?_ ?_ ?_ ?_ ?_ ?_ v
  case refine_26=>intro _;trivial
  case refine_27=>intro v vs ihv ihs h;exact ⟨ihv h.1,ihs h.2⟩
  all_goals first
    |(intros;rename_i h;first|exact h|trivial)
    |(intro ps ih h;exact ih h)
    |(intro a ps ih h;exact ih h)
theorem z88: ∀{n:Nat} {gl:List Nat} {k:Nat},z9b n gl k=true→n≤gl.length∧ ∀i,i<n→gl[i]?=some (k+i)
  |0,_,_,_=>⟨Nat.zero_le _,fun i hi=>by omega⟩
  |n+1,[],_,h=>by simp [z9b] at h
  |n+1,g ::gs,k,h=>by
   simp only [z9b] at h
   split at h
   ·rename_i e
    obtain ⟨h1,h2⟩:=z88 h
    refine ⟨by simp;omega,fun i hi=>?_⟩
    cases i with
    |zero=>simp [Nat.eq_of_beq_eq_true e]
    |succ i=>rw [List.getElem?_cons_succ,h2 i (by omega)];congr 1;omega
   ·cases h
theorem z1q: ∀{gl:List Nat} {hp:List Blk},zwd gl hp=true→gl.length=hp.length
  | [],[],_=>rfl
  |_ ::gs,_ ::bs,h=>by simp [z1q (gl:=gs) (hp:=bs) h]
  | [],_ ::_,h=>by simp [zwd] at h
  |_ ::_,[],h=>by simp [zwd] at h
theorem zuv {gl:List Nat} {n:Nat} {hp:List Blk}: ∀{gs:List Nat} {bs:List Blk} {p:Prop},gs.length=bs.length→zmd gl n hp gs bs p→
    p∧ ∀(k:Nat) el ps,bs[k]?=some (Blk.mk el ps)→ziv (fun k=>Nat.blt k n) ps=true∧ ∃g el',gs[k]?=some g∧hp[g]?=some (.mk el' (zdj (fwd gl 0) ps))
  | [],[],p,_,h=>⟨h,by simp⟩
  |g ::gs,b ::bs,p,hl,h=>by
   simp only [zmd] at h
   simp at hl
   split at h
   ·obtain ⟨h1,h2⟩:=zuv hl h
    refine ⟨h1,fun k el ps hk=>?_⟩
    cases k with
    |zero=>simp at hk
    |succ k=>simpa using h2 k el ps (by simpa using hk)
   ·rename_i el qs
    split at h
    ·rename_i hall
     obtain ⟨b',hb',h⟩:=zdo h
     split at h
     ·rename_i el' rs
      obtain ⟨he,h⟩:=znf h
      obtain ⟨h1,h2⟩:=zuv hl h
      refine ⟨h1,fun k el ps hk=>?_⟩
      cases k with
      |zero=>
       simp at hk
       obtain ⟨rfl,rfl⟩:=hk
       simp only [SV.ren] at he
       cases he
       exact ⟨hall,g,el',by simp,hb'⟩
      |succ k=>simpa using h2 k el ps (by simpa using hk)
     ·exact h.elim
    ·exact h.elim
theorem z0h {gl:List Nat} {n:Nat} {tm:List (Nat×SV)}: ∀{r:List (Nat×SV)} {p:Prop},zof gl n tm r p→
    p∧ ∀t v,y8 r t=some v→v.all (fun k=>Nat.blt k n)=true∧y8 tm t=some (v.ren (fwd gl 0))
  | [],p,h=>⟨h,fun t v hv=>by cases hv⟩
  |(t,v) ::r,p,h=>by
   simp only [zof] at h
   split at h
   ·rename_i hall
    obtain ⟨u,hu,h⟩:=yd h
    obtain ⟨hs,hn⟩:=znf h
    subst hs
    obtain ⟨h1,h2⟩:=z0h (tm:=tm) (gl:=gl) (n:=n) hn
    refine ⟨h1,fun t' v' hv'=>?_⟩
    simp only [y8] at hv'
    split at hv'
    ·rename_i e;subst e;cases hv';exact ⟨hall,hu⟩
    ·exact h2 t' v' hv'
   ·exact h.elim
theorem zyk {gl:List Nat} {tm':List (Nat×SV)} {hp':List Blk} {p:Prop} (h:zdp hp0.length gl tm hp tm' hp' p) (ht:TmRel Γ.nt ρ hp.length tm a) (S:Step ρ0 hp0 w0 ρ hp w):
    p∧TmRel Γ.nt (fun k=>ρ (fwd gl 0 k)) hp'.length tm' a∧Step ρ0 hp0 w0 (fun k=>ρ (fwd gl 0 k)) hp' w∧
     ∀t v,y8 tm' t=some v→v.ok (· <hp'.length)∧y8 tm t=some (v.ren (fwd gl 0)):=by
  unfold zdp at h
  split at h
  ·rename_i h1 h2 h3
   have hlen:=z1q h1
   have h:=zev h
   obtain ⟨h,hb⟩:=zuv hlen h
   obtain ⟨hp_,htm⟩:=z0h h
   obtain ⟨hle,hpre⟩:=z88 h3
   have hblk: ∀(k:Nat) el ps,hp'[k]?=some (Blk.mk el ps)→ ∃el',hp[fwd gl 0 k]?=some (Blk.mk el' (zdj (fwd gl 0) ps))∧gl[k]?=some (fwd gl 0 k)∧okL (· <hp'.length) ps:=fun k el ps hk=>by
     obtain ⟨hall,g,el',hg,hh⟩:=hb k el ps hk
     have hf:fwd gl 0 k=g:=zel hg
     refine ⟨el',by rw [hf];exact hh,by rw [hf];exact hg,?_⟩
     have hok:=(S.rel.mem g el' _ hh).1
     have:=SV.ok_all (SV.agg ps) (SV.ok_unren (fwd gl 0) (.agg ps) hok) hall
     rw [hlen] at this
     exact yz (fun x hx=>Nat.le_of_ble_eq_true hx) _ this
   have hv: ∀t v,y8 tm' t=some v→v.ok (· <hp'.length)∧y8 tm t=some (v.ren (fwd gl 0)):=fun t v hv=>by
     obtain ⟨hall,hl⟩:=htm t v hv
     have:=SV.ok_all v (SV.ok_unren (fwd gl 0) v (ht.val t _ hl).1) hall
     rw [hlen] at this
     exact ⟨SV.ok_mono (fun x hx=>Nat.le_of_ble_eq_true hx) v this,hl⟩
   refine ⟨hp_,⟨ht.size,ht.defers,fun t v hv'=>?_⟩,⟨⟨fun k el ps hk=>?_,fun k k' el ps el' ps' hk hk' he=>?_⟩,fun k hk=>?_,by rw [←hlen];exact hle,S.ext,?_⟩,hv⟩
   ·obtain ⟨h5,h6⟩:=hv t v hv'
    refine ⟨h5,?_⟩
    rw [(ht.val t _ h6).2,SV.den_ren]
   ·obtain ⟨el',hh,_,hok⟩:=hblk k el ps hk
    obtain ⟨_,el2,fz,g1,g2⟩:=S.rel.mem _ _ _ hh
    rw [zb9] at g1 g2
    exact ⟨hok,el2,fz,g1,g2⟩
   ·obtain ⟨e1,f1,g1,_⟩:=hblk k el ps hk
    obtain ⟨e2,f2,g2,_⟩:=hblk k' el' ps' hk'
    have:=S.rel.inj _ _ _ _ _ _ f1 f2 he
    rw [this] at g1
    exact zk2 h2 g1 g2
   ·have:=hpre k hk
    rw [Nat.zero_add] at this
    show ρ (fwd gl 0 k)=ρ0 k
    rw [zel this];exact S.same k hk
   ·rintro b ⟨k,el,ps,hk,rfl⟩
    obtain ⟨e1,f1,_⟩:=hblk k el ps hk
    exact S.foot _ ⟨_,_,_,f1,rfl⟩
  ·exact h.elim
theorem zz4 {p:Nat→Prop} (h: ∃n,p n): ∃n,p n∧ ∀m,p m→n≤m:=by
  obtain ⟨n,hn⟩:=h
  induction n using Nat.strongRecOn with
  |_ n ih=>
   by_cases hl: ∃m,m<n∧p m
   ·obtain ⟨m,hm,hp⟩:=hl;exact ih m hm hp
   ·exact ⟨n,hn,fun m hp=>Nat.le_of_not_lt fun hlt=>hl ⟨m,hlt,hp⟩⟩
theorem zyn (hΓ:CtxOK P Γ) (hE: ∀w',Ext (zgq ρ0 hp0) w0 w'→Γ.E w') (hm:P.follows .mixedOrders=true) {D:List (Nat×List PStep)}: ∀(c:Code) {tm:List (Nat×SV)} {hp:List Blk} {ρ:Nat→Nat} {a:Act} {w:World} {N:St→Prop} {X:Nat→St→Prop} {R:St→Prop} {Q:Exit→Act→World→Prop},
    vc Γ D hp0.length c tm hp N X R→TmRel Γ.nt ρ hp.length tm a→Step ρ0 hp0 w0 ρ hp w→
    (∀st a w,N st→Rel Γ ρ0 hp0 w0 st a w→Q .normal a w)→(∀id st a w,X id st→Rel Γ ρ0 hp0 w0 st a w→Q (.exit id) a w)→(∀st a w,R st→Rel Γ ρ0 hp0 w0 st a w→Q .ret a w)→c.wp P Q a w
  | .skip,_,_,ρ,_,_,_,_,_,_,h,ht,S,hN,_,_=>wp_skip (hN _ _ _ h ⟨ρ,ht,S⟩)
  | .label _,_,_,ρ,_,_,_,_,_,_,h,ht,S,hN,_,_=>wp_label (hN _ _ _ h ⟨ρ,ht,S⟩)
  | .exit id,_,_,ρ,_,_,_,_,_,_,h,ht,S,_,hX,_=>wp_exit (hX id _ _ _ h ⟨ρ,ht,S⟩)
  | .ret,_,_,ρ,_,_,_,_,_,_,h,ht,S,_,_,hR=>wp_ret (hR _ _ _ h ⟨ρ,ht,S⟩)
  | .region id ops dr,tm,hp,ρ,a,w,N,X,R,Q,h,ht,S,hN,_,_=>by
    cases dr with
    |false=>
     refine wp_region ?_
     have h:z27 Γ ops.toList ops.toList tm hp N:=h
     have:=zyy (Q:=Q) hΓ hE (fun a' w' st=>hN st a' w') ops.toList 0 (fun k=>by simp) ht S h
     rw [List.range_eq_range']
     simpa using this
    |true=>
     have h:yn D id fun steps=>Pre (zk5 ops Γ steps=true) (zfg Γ ops.toList steps [] tm hp N):=h
     obtain ⟨steps,_,h⟩:=yd h
     obtain ⟨hok,h⟩:=zq h
     exact ygk hΓ hm hok (fun w' hx=>hE w' (S.ext.trans hx S.foot)) ht S.rel h fun a' w' ρ' tm' hp' hk ht' T=>hN _ _ _ hk ⟨ρ',ht',S.trans T⟩
  | .seq x y,tm,hp,ρ,a,w,N,X,R,Q,h,ht,S,hN,hX,hR=>by
    refine wp_seq (zyn hΓ hE hm x (N:=fun st=>match st with|⟨tm',hp'⟩=>vc Γ D hp0.length y tm' hp' N X R) h ht S (fun st a w hst hrel=>?_) (fun id st a w hst hrel=>hX id st a w hst hrel) (fun st a w hst hrel=>hR st a w hst hrel))
    obtain ⟨ρ',ht',S'⟩:=hrel
    exact zyn hΓ hE hm y hst ht' S' hN hX hR
  | .cond c x y,tm,hp,ρ,a,w,N,X,R,Q,h,ht,S,hN,hX,hR=>by
    rw [yce] at h
    obtain ⟨v,hok,hv,h⟩:=zal ht h
    clear hok
    split at h
    ·rename_i t
     obtain ⟨h1,h2⟩:=z8 h
     exact wp_cond_split (t:=t) (by rw [hv];rfl) (fun e=>zyn hΓ hE hm x (h1 e) ht S hN hX hR) (fun e=>zyn hΓ hE hm y (h2 e) ht S hN hX hR)
    ·exact h.elim
  | .block id c,tm,hp,ρ,a,w,N,X,R,Q,h,ht,S,hN,hX,hR=>by
    refine wp_block (zyn hΓ hE hm c h ht S (fun st a w hst hrel=>hN st a w hst hrel) (fun i st a w hst hrel=>?_) (fun st a w hst hrel=>hR st a w hst hrel))
    split at hst
    ·rename_i e
     have:i=id:=Nat.eq_of_beq_eq_true e
     simp only [Exit.inBlock,this,if_true]
     exact hN st a w hst hrel
    ·rename_i e
     have:i≠id:=Nat.ne_of_beq_eq_false e
     simp only [Exit.inBlock,this,if_false]
     exact hX i st a w hst hrel
  | .loop c,tm,hp,ρ,a,w,N,X,R,Q,h,ht,S,hN,hX,hR=>by
    rw [ycd] at h
    obtain ⟨ι,I,μ,⟨i,gl,h0⟩,hr⟩:=yds h
    obtain ⟨_,ht0,S0,_⟩:=zyk h0 ht S
    classical
    have hex: ∀a w,(∃i,Rel Γ ρ0 hp0 w0 (I i) a w)→ ∃n i,Rel Γ ρ0 hp0 w0 (I i) a w∧μ i=n:=fun a w ⟨i,hi⟩=>⟨μ i,i,hi,rfl⟩
    let M:Act→World→Nat:=fun a w=>if h: ∃n i,Rel Γ ρ0 hp0 w0 (I i) a w∧μ i=n then Classical.choose (zz4 h) else 0
    refine wp_loop (fun a w=> ∃i,Rel Γ ρ0 hp0 w0 (I i) a w) M ⟨i,_,ht0,S0⟩ fun a w hI=>?_
    have hne:=hex a w hI
    have hM:M a w=Classical.choose (zz4 hne):=by simp only [M];rw [dif_pos hne]
    obtain ⟨i,⟨ρ1,ht1,S1⟩,hi⟩:=(Classical.choose_spec (zz4 hne)).1
    refine zyn hΓ hE hm c (hr i) ht1 S1 (fun st a' w' hst hrel=>?_) (fun id st a w hst hrel=>hX id st a w hst hrel) (fun st a w hst hrel=>hR st a w hst hrel)
    obtain ⟨j,gl,hlt,hent⟩:=hst
    obtain ⟨ρ2,ht2,S2⟩:=hrel
    obtain ⟨_,ht3,S3,_⟩:=zyk hent ht2 S2
    have hj:Rel Γ ρ0 hp0 w0 (I j) a' w':=⟨_,ht3,S3⟩
    refine ⟨⟨j,hj⟩,?_⟩
    have hne':=hex a' w' ⟨j,hj⟩
    have:M a' w'≤μ j:=by
      simp only [M];rw [dif_pos hne']
      exact (Classical.choose_spec (zz4 hne')).2 _ ⟨j,hj,rfl⟩
    rw [hM,←hi]
    omega
  | .rangeFunc ..,_,_,_,_,_,_,_,_,_,h,_,_,_,_,_=>h.elim
  | .scope _,_,_,_,_,_,_,_,_,_,h,_,_,_,_,_=>h.elim
  | .goto _,_,_,_,_,_,_,_,_,_,h,_,_,_,_,_=>h.elim
end
end Go.Sym
