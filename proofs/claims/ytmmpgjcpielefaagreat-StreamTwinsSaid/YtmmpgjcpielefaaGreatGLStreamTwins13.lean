/-
  Contracts of functions of the program, each said of symbolic values, and plain laws; no condition beyond each statement's own.
-/
import Derived.Test.YtmmpgjcpielefaaGreatGLStreamTwins12
set_option linter.unusedSimpArgs false
set_option linter.unusedVariables false
namespace Go.Sym
section
variable {P:Program} {Γ:Ctx} {ops:Array Oper} {Q:Exit→Act→World→Prop} {K:St→Prop} {ρ0:Nat→Nat} {hp0:List Blk} {w0:World}
def y7 (listed:Array Bool) (late:List Late):List Late:=(late.filter fun x=>!listed.getD x.i false).reverse
def xu:List Late→List Nat
  | []=> []
  |x ::xs=>match x.k with
   | .maker b=>b ::xu xs
   |_=>xu xs
theorem yt {b:Nat}: ∀{xs:List Late},b∈xu xs↔ ∃x∈xs,x.k= .maker b
  | []=>by simp [xu]
  |⟨i,o,v,kx⟩ ::xs=>by cases kx<;>simp [xu,yt,eq_comm]
theorem xb {listed:Array Bool} {late:List Late} {x:Late}:x∈y7 listed late↔x∈late∧listed.getD x.i false=false:=by
  simp [y7]
theorem Step.sub {ρ:Nat→Nat} {hp hp':List Blk} {w:World} (h:Step ρ0 hp0 w0 ρ hp w) (hl:hp'.length=hp.length) (hs: ∀(k:Nat) el ps,hp'[k]?=some (Blk.mk el ps)→hp[k]?=some (.mk el ps)):Step ρ0 hp0 w0 ρ hp' w:=
  ⟨h.rel.sub fun k el ps hk=>⟨hs k el ps hk,by rw [hl];exact (h.rel.mem k el ps (hs k el ps hk)).1⟩,h.same,by rw [hl];exact h.le,h.ext,fun b ⟨k,el,ps,hk,he⟩=>h.foot b ⟨k,el,ps,hs k el ps hk,he⟩⟩
structure Inv (P:Program) (Γ:Ctx) (ops:Array Oper) (K:St→Prop) (ρ0:Nat→Nat) (hp0:List Blk) (w0:World) (listed:Array Bool) (a:Act) (w:World) (pre ss:List PStep) (late:List Late)
    (tm:List (Nat×SV)) (hp:List Blk) (ρ:Nat→Nat) (tmR:List (Nat×SV)):Prop where
  size:listed.size=ops.size
  down: ∀i o,listed.getD i false=true→ops[i]?=some o→ ∀e∈xk o,listed.getD e false=true
  real: ∀i,listed.getD i false=true→ ∃p∈pre,p.i=i
  virt: ∀p∈pre,listed.getD p.i false=true∨ ∃x∈late,x.i=p.i
  get: ∀x∈late,ops[x.i]?=some x.o
  along:Along late pre
  nodup:late.Pairwise fun x y=>x.i≠y.i
  pairs:late.Pairwise fun y x=>Before ops x.i y.i∨x.o.apart ops y.o=true
  rkind: ∀x∈late,∀M,x.k= .read M→za1 Γ x.o.op= .read
  rmask: ∀x∈late,∀M,x.k= .read M→ ∀z∈late,∀b,z.k= .maker b→Before ops z.i x.i∨b∈M
  mblk: ∀z∈late,∀b,z.k= .maker b→hp0.length≤b∧b<hp.length
  mone: ∀y∈late,∀z∈late,∀b,y.k= .maker b→z.k= .maker b→y.i=z.i
  avoid: ∀y∈y7 listed late,∀z∈y7 listed late,∀b,z.k= .maker b→y.i≠z.i→Before ops z.i y.i∨
    (y.v.ok (· ≠b)∧ ∀c el ps,y.k= .maker c→hp[c]?=some (.mk el ps)→okL (· ≠b) ps)
  tmr:TmRel Γ.nt ρ hp.length tmR a
  chain:xz P Γ ops hp tmR (y7 listed late) tm
  step:Step ρ0 hp0 w0 ρ (mask (xu (y7 listed late)) hp) w
  hpok: ∀(k:Nat) el ps,hp[k]?=some (Blk.mk el ps)→okL (· <hp.length) ps
  a1: ∀t v,y3 tmR t=some v→v.ok (· ∉xu (y7 listed late))
  a2: ∀(k:Nat) el ps,k∉xu (y7 listed late)→hp[k]?=some (Blk.mk el ps)→okL (· ∉xu (y7 listed late)) ps
  nsel: ∀(j:Nat) (o:Oper) cs b,ops[j]?=some o→o.op≠ .select cs b
  plan: ∃T,zey ops T∧zdj ops Γ pre ss T=true
  vc:zd0 Γ ops.toList ss late tm hp K
variable {listed:Array Bool} {a:Act} {w:World} {pre ss:List PStep} {s:PStep} {late:List Late} {tm:List (Nat×SV)} {hp:List Blk} {ρ:Nat→Nat} {tmR:List (Nat×SV)}
theorem zik: ∀{xs:List Late} {tm tm':List (Nat×SV)},xz P Γ ops hp tm xs tm'→ze9 hp.length tm→ze9 hp.length tm'∧ ∀x∈xs,x.v.ok (· <hp.length)
  | [],_,_,h,hk=>⟨fun t v hv=>hk t v (by rw [h];exact hv),by simp⟩
  |x ::xs,_,_,⟨_,h2,_,h4⟩,hk=>by
   obtain ⟨g1,g2⟩:=zik h4 (hk.put h2)
   exact ⟨g1,fun y hy=>by rcases List.mem_cons.1 hy with rfl|hy;exact h2;exact g2 y hy⟩
theorem znm {x:Late} (h:listed.getD x.i false=false):y7 listed (x ::late)=y7 listed late++ [x]:=by
  unfold y7
  rw [List.filter_cons_of_pos (by rw [h];rfl),List.reverse_cons]
theorem Inv.absorb (I:Inv P Γ ops K ρ0 hp0 w0 listed a w pre (s ::ss) late tm hp ρ tmR) {o:Oper} {T':Table} (S:StepOK Γ ops pre s ss o) (hT:zey ops T') (hpl:zdj ops Γ (s ::pre) ss T'=true)
    {v:SV} {k:LateK} (hk: ∀b,k≠ .maker b) (hkr: ∀M,k= .read M→za1 Γ o.op= .read∧M=zah s.loose late) (hf:zan P Γ ops hp ⟨s.i,o,v,k⟩ tm) (hv:v.ok (· <hp.length)) (hav:v.ok (· ∉zah s.loose late))
    (hd: ∀d,o.dst=some d→d<Γ.nt) (hvc:zd0 Γ ops.toList ss (⟨s.i,o,v,k⟩ ::late) (zav tm o.dst v) hp K):
    Inv P Γ ops K ρ0 hp0 w0 listed a w (s ::pre) ss (⟨s.i,o,v,k⟩ ::late) (zav tm o.dst v) hp ρ tmR:=by
  have hun:listed.getD s.i false=false:=by
    cases h:listed.getD s.i false with
    |false=>rfl
    |true=>obtain ⟨p,hp,he⟩:=I.real _ h;exact absurd he (S.new p hp)
  have hne: ∀x∈late,x.i≠s.i:=fun x hx=>by obtain ⟨p,h1,h2⟩:=I.along.mem x hx;rw [←h2];exact S.new p h1
  have hlo: ∀x∈late,(x.i∈s.loose∧x.o.apart ops o=true)∨(x.i∉s.loose∧Before ops x.i s.i):=fun x hx=>by
    obtain ⟨p,h1,h2⟩:=I.along.mem x hx
    rcases S.pairs p h1 with ⟨g1,y,g2,g3⟩|⟨g1,g2⟩
    ·rw [h2] at g1 g2
     rw [I.get x hx] at g2
     cases g2
     exact .inl ⟨g1,g3⟩
    ·rw [h2] at g1 g2;exact .inr ⟨g1,g2⟩
  have hpe:y7 listed (⟨s.i,o,v,k⟩ ::late)=y7 listed late++ [⟨s.i,o,v,k⟩]:=znm hun
  have hpb: ∀b,b∈xu (y7 listed (⟨s.i,o,v,k⟩ ::late))↔b∈xu (y7 listed late):=fun b=>by
    rw [hpe,yt,yt]
    constructor
    ·rintro ⟨x,hx,hxk⟩
     rcases List.mem_append.1 hx with hx|hx
     ·exact ⟨x,hx,hxk⟩
     ·simp at hx;subst hx;exact absurd hxk (hk b)
    ·rintro ⟨x,hx,hxk⟩;exact ⟨x,by simp [hx],hxk⟩
  refine {I with
    real:=fun i h=>by obtain ⟨p,h1,h2⟩:=I.real i h;exact ⟨p,by simp [h1],h2⟩
    virt:=fun p hp=>?_
    get:=fun x hx=>by rcases List.mem_cons.1 hx with rfl|hx;exact S.get;exact I.get x hx
    along:= .take rfl I.along
    nodup:=List.pairwise_cons.2 ⟨fun x hx=>(hne x hx).symm,I.nodup⟩
    pairs:=List.pairwise_cons.2 ⟨fun x hx=>(hlo x hx).elim (fun h=> .inr h.2) (fun h=> .inl h.2),I.pairs⟩
    rkind:=fun x hx M hM=>by rcases List.mem_cons.1 hx with rfl|hx;exact (hkr M hM).1;exact I.rkind x hx M hM
    rmask:=fun x hx M hM z hz b hb=>?_
    mblk:=fun z hz b hb=>by rcases List.mem_cons.1 hz with rfl|hz;exact absurd hb (hk b);exact I.mblk z hz b hb
    mone:=fun y hy z hz b h1 h2=>?_
    avoid:=fun y hy z hz b hb hyz=>?_
    chain:=by rw [hpe];exact I.chain.snoc hf hv hd
    step:=I.step.sub (by simp [ya]) fun c el ps hc=>by rw [y5] at hc ⊢;exact ⟨fun h=>hc.1 ((hpb c).2 h),hc.2⟩
    a1:=fun t u hu=>SV.ok_mono (fun x hx h=>hx ((hpb x).1 h)) u (I.a1 t u hu)
    a2:=fun c el ps hc hcc=>yq (fun x hx h=>hx ((hpb x).1 h)) _ (I.a2 c el ps (fun h=>hc ((hpb c).2 h)) hcc)
    plan:=⟨T',hT,hpl⟩
    vc:=hvc}
  ·rcases List.mem_cons.1 hp with rfl|hp
   ·exact .inr ⟨_,List.mem_cons_self,rfl⟩
   ·rcases I.virt p hp with h|⟨x,h1,h2⟩
    ·exact .inl h
    ·exact .inr ⟨x,by simp [h1],h2⟩
  ·rcases List.mem_cons.1 hz with rfl|hz
   ·exact absurd hb (hk b)
   ·rcases List.mem_cons.1 hx with rfl|hx
    ·obtain ⟨_,rfl⟩:=hkr M hM
     rcases hlo z hz with ⟨g1,_⟩|⟨_,g2⟩
     ·exact .inr (zao.2 ⟨z,hz,hb,g1⟩)
     ·exact .inl g2
    ·exact I.rmask x hx M hM z hz b hb
  ·rcases List.mem_cons.1 hy with rfl|hy
   ·exact absurd h1 (hk b)
   ·rcases List.mem_cons.1 hz with rfl|hz
    ·exact absurd h2 (hk b)
    ·exact I.mone y hy z hz b h1 h2
  ·rw [hpe] at hy hz
   rcases List.mem_append.1 hz with hz|hz
   ·rcases List.mem_append.1 hy with hy|hy
    ·exact I.avoid y hy z hz b hb hyz
    ·simp at hy;subst hy
     have hzl:=(xb.1 hz).1
     rcases hlo z hzl with ⟨g1,_⟩|⟨_,g2⟩
     ·refine .inr ⟨SV.ok_mono (fun x hx e=>hx (by rw [e];exact zao.2 ⟨z,hzl,hb,g1⟩)) v hav,fun c el ps hc=>absurd hc (hk c)⟩
     ·exact .inl g2
   ·simp at hz;subst hz;exact absurd hb (hk b)
theorem Inv.absorbM (I:Inv P Γ ops K ρ0 hp0 w0 listed a w pre (s ::ss) late tm hp ρ tmR) {o:Oper} {T':Table} (S:StepOK Γ ops pre s ss o) (hT:zey ops T') (hpl:zdj ops Γ (s ::pre) ss T'=true)
    {v:SV} {el:TypeId} {ps:List SV} (hw:zg4 Γ ops hp.length o tm) (hv:v.ok (· =hp.length)) (hps:okL (· <hp.length) ps)
    (hrun: ∀ρ a,TmRel Γ.nt ρ hp.length tm a→ ∀(ρ1:Nat→Nat) w,ρ1 hp.length=w.heap.size→(execOp a.eval o).run P w= .ok (.value (v.den ρ1)) (w.alloc (.cells (zq ρ ps).toArray el)))
    (hav:okL (· ∉zah s.loose late) ps)
    (hd: ∀d,o.dst=some d→d<Γ.nt) (hvc:zd0 Γ ops.toList ss (⟨s.i,o,v,.maker hp.length⟩ ::addM hp.length late) (zav tm o.dst v) (hp++ [.mk el ps]) K):
    Inv P Γ ops K ρ0 hp0 w0 listed a w (s ::pre) ss (⟨s.i,o,v,.maker hp.length⟩ ::addM hp.length late) (zav tm o.dst v) (hp++ [.mk el ps]) ρ tmR:=by
  have hun:listed.getD s.i false=false:=by
    cases h:listed.getD s.i false with
    |false=>rfl
    |true=>obtain ⟨p,hp,he⟩:=I.real _ h;exact absurd he (S.new p hp)
  have hne: ∀x∈late,x.i≠s.i:=fun x hx=>by obtain ⟨p,h1,h2⟩:=I.along.mem x hx;rw [←h2];exact S.new p h1
  have hlo: ∀x∈late,(x.i∈s.loose∧x.o.apart ops o=true)∨(x.i∉s.loose∧Before ops x.i s.i):=fun x hx=>by
    obtain ⟨p,h1,h2⟩:=I.along.mem x hx
    rcases S.pairs p h1 with ⟨g1,y,g2,g3⟩|⟨g1,g2⟩
    ·rw [h2] at g1 g2
     rw [I.get x hx] at g2
     cases g2
     exact .inl ⟨g1,g3⟩
    ·rw [h2] at g1 g2;exact .inr ⟨g1,g2⟩
  have hfl: ∀l:List Late,(addM hp.length l).filter (fun x=>!listed.getD x.i false)=addM hp.length (l.filter fun x=>!listed.getD x.i false):=fun l=>by
    induction l with
    |nil=>rfl
    |cons x xs ih=>
     obtain ⟨i,o,v,kx⟩:=x
     cases kx<;>simp only [addM,List.filter_cons,ih]<;>split<;>rfl
  have hpa:y7 listed (addM hp.length late)=addM hp.length (y7 listed late):=by
    unfold y7
    rw [hfl,zd2,zd2,List.map_reverse]
  have hpe:y7 listed (⟨s.i,o,v,.maker hp.length⟩ ::addM hp.length late)=addM hp.length (y7 listed late)++ [⟨s.i,o,v,.maker hp.length⟩]:=by
    rw [znm hun,hpa]
  have hmk: ∀{y:Late} {l:List Late} {b:Nat},y∈addM hp.length l→y.k= .maker b→ ∃x∈l,x.k= .maker b∧y.i=x.i∧y.v=x.v∧y.o=x.o:=fun hy hb=>by
    obtain ⟨x,h1,h2,h3,h4,h5⟩:=zc1 hy
    rcases h5 with ⟨M,_,h6⟩|⟨_,h6⟩
    ·rw [h6] at hb;cases hb
    ·exact ⟨x,h1,by rw [←h6,hb],h2,h4,h3⟩
  have hkm: ∀{x:Late} {l:List Late} {b:Nat},x∈l→x.k= .maker b→x∈addM hp.length l:=fun {x l b} hx hb=>by
    induction l with
    |nil=>cases hx
    |cons y ys ih=>
     simp only [addM,List.mem_cons]
     rcases List.mem_cons.1 hx with rfl|hx
     ·left;rw [hb]
     ·right;exact ih hx
  have hpb: ∀b,b∈xu (y7 listed (⟨s.i,o,v,.maker hp.length⟩ ::addM hp.length late))↔b∈xu (y7 listed late)∨b=hp.length:=fun b=>by
    rw [hpe,yt,yt]
    constructor
    ·rintro ⟨x,hx,hxk⟩
     rcases List.mem_append.1 hx with hx|hx
     ·obtain ⟨y,h1,h2,_⟩:=hmk hx hxk;exact .inl ⟨y,h1,h2⟩
     ·simp at hx;subst hx;cases hxk;exact .inr rfl
    ·rintro (⟨x,hx,hxk⟩|rfl)
     ·exact ⟨x,by simp [hkm hx hxk],hxk⟩
     ·exact ⟨_,List.mem_append_right _ (List.mem_singleton.2 rfl),rfl⟩
  have hpl': ∀b∈xu (y7 listed late),b<hp.length:=fun b hb=>by
    obtain ⟨x,h1,h2⟩:=yt.1 hb
    exact (I.mblk x (xb.1 h1).1 b h2).2
  have hlen:(hp++ [Blk.mk el ps]).length=hp.length+1:=by simp
  have hle:hp.length≤(hp++ [Blk.mk el ps]).length:=by simp
  have old: ∀(k:Nat) el' qs,(hp++ [Blk.mk el ps])[k]?=some (Blk.mk el' qs)→k<hp.length∧hp[k]?=some (.mk el' qs)∨k=hp.length∧el'=el∧qs=ps:=fun k el' qs hk=>by
    rcases Nat.lt_trichotomy k hp.length with hl|rfl|hl
    ·rw [List.getElem?_append_left hl] at hk;exact .inl ⟨hl,hk⟩
    ·simp at hk;exact .inr ⟨rfl,hk.1.symm,hk.2.symm⟩
    ·rw [List.getElem?_eq_none (by simp;omega)] at hk;cases hk
  obtain ⟨htm,hxs⟩:=zik I.chain I.tmr.okay
  have hin: ∀{y:Late},y∈addM hp.length late→ ∃x∈late,y.i=x.i∧y.o=x.o:=fun hy=>by obtain ⟨x,h1,h2,h3,_⟩:=zc1 hy;exact ⟨x,h1,h2,h3⟩
  refine {I with
    real:=fun i h=>by obtain ⟨p,h1,h2⟩:=I.real i h;exact ⟨p,by simp [h1],h2⟩
    virt:=fun p hp=>?_
    get:=fun x hx=>by
      rcases List.mem_cons.1 hx with rfl|hx
      ·exact S.get
      ·obtain ⟨y,h1,h2,h3⟩:=hin hx;rw [h2,h3];exact I.get y h1
    along:= .take rfl I.along.addM
    nodup:=List.pairwise_cons.2 ⟨fun x hx=>by obtain ⟨y,h1,h2,_⟩:=hin hx;rw [h2];exact (hne y h1).symm,?_⟩
    pairs:=List.pairwise_cons.2 ⟨fun x hx=>by obtain ⟨y,h1,h2,h3⟩:=hin hx;rw [h2,h3];exact (hlo y h1).elim (fun h=> .inr h.2) (fun h=> .inl h.2),?_⟩
    rkind:=fun x hx M hM=>?_
    rmask:=fun x hx M hM z hz b hb=>?_
    mblk:=fun z hz b hb=>?_
    mone:=fun y hy z hz b h1 h2=>?_
    avoid:=fun y hy z hz b hb hyz=>?_
    tmr:=I.tmr.down' hle
    chain:=by
      rw [hpe]
      exact (I.chain.grow I.hpok I.tmr.okay fun x hx c hc=>(I.mblk x (xb.1 hx).1 c hc).2).snoc ⟨fun ρ a ht=>hw ρ a (ht.down htm),el,ps,by simp,yq (fun x hx=>Nat.lt_of_lt_of_le hx hle) _ hps,hv,yq (fun x hx e=>by omega) _ hps,fun ρ a ht=>hrun ρ a (ht.down htm)⟩
        (SV.ok_mono (fun x hx=>by rw [hx,hlen];exact Nat.lt_succ_self _) v hv) hd
    step:=I.step.grow.sub (by simp [ya]) fun c el' qs hc=>?_
    hpok:=fun k el' qs hk=>?_
    a1:=fun t u hu=>SV.ok_and (fun x (h1:x∉xu (y7 listed late)) (h2:x<hp.length) h=>(hpb x |>.1 h).elim h1 (fun e=>by omega)) u (I.a1 t u hu) (I.tmr.okay t u hu)
    a2:=fun c el' qs hc hcc=>?_
    plan:=⟨T',hT,hpl⟩
    vc:=hvc}
  ·rcases List.mem_cons.1 hp with rfl|hp
   ·exact .inr ⟨_,List.mem_cons_self,rfl⟩
   ·rcases I.virt p hp with h|⟨x,h1,h2⟩
    ·exact .inl h
    ·right
     rw [zd2]
     refine ⟨_,List.mem_cons_of_mem _ (List.mem_map.2 ⟨x,h1,rfl⟩),?_⟩
     rw [←h2]
     split<;>rfl
  ·rw [zd2,List.pairwise_map]
   refine I.nodup.imp fun {x y} h=>?_
   obtain ⟨i,o,v,kx⟩:=x
   obtain ⟨i',o',v',kx'⟩:=y
   cases kx<;>cases kx'<;>exact h
  ·rw [zd2,List.pairwise_map]
   refine I.pairs.imp fun {x y} h=>?_
   obtain ⟨i,o,v,kx⟩:=x
   obtain ⟨i',o',v',kx'⟩:=y
   cases kx<;>cases kx'<;>exact h
  ·rcases List.mem_cons.1 hx with rfl|hx
   ·cases hM
   ·obtain ⟨y,h1,h2,h3,h4,h5⟩:=zc1 hx
    rcases h5 with ⟨M',h6,_⟩|⟨h6,h7⟩
    ·rw [h3];exact I.rkind y h1 M' h6
    ·rw [h7] at hM;exact absurd hM (h6 M)
  ·rcases List.mem_cons.1 hx with rfl|hx
   ·cases hM
   ·obtain ⟨y,h1,h2,h3,h4,h5⟩:=zc1 hx
    rcases h5 with ⟨M',h6,h7⟩|⟨h6,h7⟩
    ·rw [h7] at hM
     cases hM
     rcases List.mem_cons.1 hz with rfl|hz
     ·cases hb;exact .inr (by simp)
     ·obtain ⟨z',g1,g2,g3,_⟩:=hmk hz hb
      rw [g3,h2]
      rcases I.rmask y h1 M' h6 z' g1 b g2 with h|h
      ·exact .inl h
      ·exact .inr (by simp [h])
    ·rw [h7] at hM;exact absurd hM (h6 M)
  ·rw [hlen]
   rcases List.mem_cons.1 hz with rfl|hz
   ·cases hb;exact ⟨by have:=I.step.le;rwa [ya] at this,Nat.lt_succ_self _⟩
   ·obtain ⟨z',g1,g2,_⟩:=hmk hz hb
    have:=I.mblk z' g1 b g2
    exact ⟨this.1,by omega⟩
  ·rcases List.mem_cons.1 hy with rfl|hy
   ·cases h1
    rcases List.mem_cons.1 hz with rfl|hz
    ·rfl
    ·obtain ⟨z',g1,g2,_⟩:=hmk hz h2
     have:=(I.mblk z' g1 _ g2).2;omega
   ·obtain ⟨y',f1,f2,f3,_⟩:=hmk hy h1
    rcases List.mem_cons.1 hz with rfl|hz
    ·cases h2
     have:=(I.mblk y' f1 _ f2).2;omega
    ·obtain ⟨z',g1,g2,g3,_⟩:=hmk hz h2
     rw [f3,g3];exact I.mone y' f1 z' g1 b f2 g2
  ·rw [hpe] at hy hz
   rcases List.mem_append.1 hz with hz|hz
   ·obtain ⟨z',g1,g2,g3,_⟩:=hmk hz hb
    have hzl:=(xb.1 g1).1
    have hbl:=(I.mblk z' hzl b g2).2
    rcases List.mem_append.1 hy with hy|hy
    ·obtain ⟨y',f1,f2,f3,f4,f5⟩:=zc1 hy
     rw [f2,g3] at hyz ⊢
     rcases I.avoid y' f1 z' g1 b g2 hyz with h|⟨h,h'⟩
     ·exact .inl h
     ·refine .inr ⟨by rw [f4];exact h,fun c el' qs hc hcc=>?_⟩
      obtain ⟨y2,e1,e2,_⟩:=hmk hy hc
      have hcl:=(I.mblk y2 (xb.1 e1).1 c e2).2
      rw [List.getElem?_append_left hcl] at hcc
      refine h' c el' qs ?_ hcc
      rcases f5 with ⟨M,_,h6⟩|⟨_,h6⟩
      ·rw [h6] at hc;cases hc
      ·rw [←h6,hc]
    ·simp at hy;subst hy
     rw [g3]
     rcases hlo z' hzl with ⟨q1,_⟩|⟨_,q2⟩
     ·refine .inr ⟨SV.ok_mono (fun x hx e=>by omega) v hv,fun c el' qs hc hcc=>?_⟩
      cases hc
      simp at hcc
      obtain ⟨_,rfl⟩:=hcc
      exact yq (fun x hx e=>hx (by rw [e];exact zao.2 ⟨z',hzl,g2,q1⟩)) _ hav
     ·exact .inl q2
   ·simp at hz;subst hz
    cases hb
    rcases List.mem_append.1 hy with hy|hy
    ·obtain ⟨y',f1,f2,f3,f4,f5⟩:=zc1 hy
     refine .inr ⟨?_,fun c el' qs hc hcc=>?_⟩
     ·rw [f4];exact SV.ok_mono (fun x hx e=>by omega) _ (hxs y' f1)
     ·obtain ⟨y2,e1,e2,_⟩:=hmk hy hc
      have hcl:=(I.mblk y2 (xb.1 e1).1 c e2).2
      rw [List.getElem?_append_left hcl] at hcc
      exact yq (fun x hx e=>by omega) _ (I.hpok c el' qs hcc)
    ·simp at hy;subst hy;exact absurd rfl hyz
  ·rw [y5] at hc
   obtain ⟨h1,h2⟩:=hc
   have hcn:c∉xu (y7 listed late)∧c≠hp.length:=by
     have:=fun h=>h1 ((hpb c).2 h)
     exact ⟨fun h=>this (.inl h),fun h=>this (.inr h)⟩
   rcases old c el' qs h2 with ⟨hl,h3⟩|⟨h3,_⟩
   ·rw [List.getElem?_append_left (by rwa [ya])]
    exact y5.2 ⟨hcn.1,h3⟩
   ·exact absurd h3 hcn.2
  ·rcases old k el' qs hk with ⟨hl,h3⟩|⟨_,_,rfl⟩
   ·exact yq (fun x hx=>Nat.lt_of_lt_of_le hx hle) _ (I.hpok k el' qs h3)
   ·exact yq (fun x hx=>Nat.lt_of_lt_of_le hx hle) _ hps
  ·have hcn:c∉xu (y7 listed late)∧c≠hp.length:=by
     have:=fun h=>hc ((hpb c).2 h)
     exact ⟨fun h=>this (.inl h),fun h=>this (.inr h)⟩
   rcases old c el' qs hcc with ⟨hl,h3⟩|⟨h3,_⟩
   ·exact z5a (fun x (g1:x∉xu (y7 listed late)) (g2:x<hp.length) h=>(hpb x |>.1 h).elim g1 (fun e=>by omega)) (I.a2 c el' qs hcn.1 h3) (I.hpok c el' qs h3)
   ·exact absurd h3 hcn.2
end
end Go.Sym

namespace Go.Sym
section
variable {P:Program} {Γ:Ctx} {ops:Array Oper} {Q:Exit→Act→World→Prop} {K:St→Prop} {ρ0:Nat→Nat} {hp0:List Blk} {w0:World}
variable {listed:Array Bool} {a:Act} {w:World} {pre ss:List PStep} {s:PStep} {late:List Late} {tm:List (Nat×SV)} {hp:List Blk} {ρ:Nat→Nat} {tmR:List (Nat×SV)}
theorem zp7 {v:SV} {p:Nat→Prop} (hv:v.ok p): ∀{L:List Nat},(∀b∈L,v.ok (· ≠b))→v.ok (· ∉L)
  | [],_=>SV.ok_mono (fun _ _=>by simp) v hv
  |b ::L,h=>SV.ok_and (fun x (h1:x≠b) (h2:x∉L)=>by simp [h1,h2]) v (h b (by simp)) (zp7 hv fun c hc=>h c (by simp [hc]))
theorem z3d {vs:List SV} {p:Nat→Prop} (hv:okL p vs) {L:List Nat} (h: ∀b∈L,okL (· ≠b) vs):okL (· ∉L) vs:=zp7 (v:= .agg vs) hv h
theorem zba {i:Nat} {o:Oper} (ho:ops[i]?=some o) (hw:Region.wanted o (yielded ops a.tmps)=true) {v:Value} {w':World} (hr:(execOp a.eval o).run P w= .ok (.value v) w') {Kc:Act→World→Prop} (h:Kc (a.put o.dst v) w'):wpOp P ops Q i Kc a w:=by
  unfold wpOp
  simp only [ho,hw,if_true,Oper.wp,hr,Oper.upon]
  exact .inl h
theorem zbn {i j:Nat} (h:j<listed.size):(listed.setIfInBounds j true).getD i false=true↔i=j∨listed.getD i false=true:=by
  by_cases e:i=j
  ·subst e;simp [h]
  ·rw [getD_set_ne false (fun x=>e x.symm)];simp [e]
theorem TmRel.re {nt n:Nat} {ρ ρ1:Nat→Nat} {tm:List (Nat×SV)} {a:Act} (h:TmRel nt ρ n tm a) (hs: ∀t v,y3 tm t=some v→v.den ρ1=v.den ρ):TmRel nt ρ1 n tm a:=
  ⟨h.size,h.defers,fun t v hv=>⟨(h.val t v hv).1,by rw [(h.val t v hv).2,hs t v hv]⟩⟩
theorem Inv.lt (I:Inv P Γ ops K ρ0 hp0 w0 listed a w pre ss late tm hp ρ tmR) {x:Late} (hx:x∈late):x.i<listed.size:=by
  rw [I.size];exact (Array.getElem?_eq_some_iff.1 (I.get x hx)).1
theorem Inv.core (I:Inv P Γ ops K ρ0 hp0 w0 listed a w pre ss late tm hp ρ tmR) {x:Late} (hx:x∈y7 listed late) (hrd: ∀e∈xk x.o,listed.getD e false=true):
    ∃A B,y7 listed late=A++x ::B∧y7 (listed.setIfInBounds x.i true) late=A++B∧zan P Γ ops hp x tmR∧x.v.ok (· <hp.length)∧(∀d,x.o.dst=some d→d<Γ.nt)∧
     (∀z∈A++B,∀b,z.k= .maker b→x.v.ok (· ≠b)∧ ∀c el ps,x.k= .maker c→hp[c]?=some (.mk el ps)→okL (· ≠b) ps)∧
     ∀a' w' ρ',TmRel Γ.nt ρ' hp.length (zav tmR x.o.dst x.v) a'→Step ρ0 hp0 w0 ρ' (mask (xu (A++B)) hp) w'→
      Inv P Γ ops K ρ0 hp0 w0 (listed.setIfInBounds x.i true) a' w' pre ss late tm hp ρ' (zav tmR x.o.dst x.v):=by
  obtain ⟨hxl,hxu⟩:=xb.1 hx
  have hlt:=I.lt hxl
  obtain ⟨A,B,hAB⟩:=List.append_of_mem hx
  have hbef: ∀{k:Nat},Before ops k x.i→listed.getD k false=true:=fun hb=>
    hb.listed (L:=fun i=>listed.getD i false=true) I.down fun o ho e he=>hrd e (by rw [I.get x hxl] at ho;cases ho;exact he)
  have hnd:(y7 listed late).Pairwise fun x y=>x.i≠y.i:=by
    unfold y7
    rw [List.pairwise_reverse]
    exact (I.nodup.filter _).imp fun h=>h.symm
  have hpw:(y7 listed late).Pairwise fun x y=>Before ops x.i y.i∨x.o.apart ops y.o=true:=by
    unfold y7
    rw [List.pairwise_reverse]
    exact I.pairs.filter _
  rw [hAB,List.pairwise_append] at hnd hpw
  have hnA: ∀y∈A,y.i≠x.i:=fun y hy=>hnd.2.2 y hy x (by simp)
  have hnB: ∀y∈B,y.i≠x.i:=fun y hy=>((List.pairwise_cons.1 hnd.2.1).1 y hy).symm
  have hmem: ∀{y:Late},y∈A++B→y∈y7 listed late∧y.i≠x.i:=fun hy=>by
    rw [hAB]
    rcases List.mem_append.1 hy with h|h
    ·exact ⟨by simp [h],hnA _ h⟩
    ·exact ⟨by simp [h],hnB _ h⟩
  have hpe:y7 (listed.setIfInBounds x.i true) late=A++B:=by
    have:y7 (listed.setIfInBounds x.i true) late=(y7 listed late).filter fun y=>!(decide (y.i=x.i)):=by
      unfold y7
      rw [List.filter_reverse,List.filter_filter]
      congr 1
      apply List.filter_congr
      intro y hy
      by_cases e:y.i=x.i
      ·have:(listed.setIfInBounds x.i true).getD y.i false=true:=(zbn hlt).2 (.inl e)
       rw [this];simp [e]
      ·rw [getD_set_ne false (fun h=>e h.symm)];simp [e]
    rw [this,hAB,List.filter_append,List.filter_cons_of_neg (by simp),List.filter_eq_self.2 (fun y hy=>by simp [hnA y hy]),List.filter_eq_self.2 (fun y hy=>by simp [hnB y hy])]
  have hch:=I.chain
  rw [hAB] at hch
  have hns: ∀(j:Nat) (o:Oper) cs b,ops[j]?=some o→o.op≠ .select cs b:=I.nsel
  obtain ⟨f1,f2,f3,f4⟩:=hch.bubble hns (I.get x hxl) I.tmr.okay fun y hy=>by
    have hyp:y∈y7 listed late:=by rw [hAB];simp [hy]
    obtain ⟨hyl,hyu⟩:=xb.1 hyp
    refine ⟨I.get y hyl,(hpw.2.2 y hy x (by simp)).resolve_left fun hb=>?_⟩
    rw [hbef hb] at hyu;cases hyu
  have hav: ∀z∈A++B,∀b,z.k= .maker b→x.v.ok (· ≠b)∧ ∀c el ps,x.k= .maker c→hp[c]?=some (.mk el ps)→okL (· ≠b) ps:=fun z hz b hb=>by
    obtain ⟨hzp,hzn⟩:=hmem hz
    refine (I.avoid x hx z hzp b hb (fun e=>hzn e.symm)).resolve_left fun hbf=>?_
    have:=(xb.1 hzp).2
    rw [hbef hbf] at this;cases this
  have hsub: ∀b,b∈xu (A++B)→b∈xu (y7 listed late):=fun b hb=>by
    obtain ⟨z,h1,h2⟩:=yt.1 hb
    exact yt.2 ⟨z,(hmem h1).1,h2⟩
  refine ⟨A,B,hAB,hpe,f1,f2,f3,hav,fun a' w' ρ' htm hst=>?_⟩
  refine {I with
    size:=by simp [I.size]
    down:=fun i o hi ho e he=>?_
    real:=fun i hi=>?_
    virt:=fun p hp=>?_
    avoid:=fun y hy z hz b hb hyz=>I.avoid y (hmem (hpe ▸ hy)).1 z (hmem (hpe ▸ hz)).1 b hb hyz
    tmr:=htm
    chain:=by rw [hpe];exact f4
    step:=by rw [hpe];exact hst
    a1:=fun t v hv=>?_
    a2:=fun c el ps hc hcc=>?_}
  ·rw [zbn hlt] at hi ⊢
   rcases hi with rfl|hi
   ·rw [I.get x hxl] at ho;cases ho;exact .inr (hrd e he)
   ·exact .inr (I.down i o hi ho e he)
  ·rw [zbn hlt] at hi
   rcases hi with rfl|hi
   ·exact I.along.mem x hxl
   ·exact I.real i hi
  ·rw [zbn hlt]
   rcases I.virt p hp with h|h
   ·exact .inl (.inr h)
   ·exact .inr h
  ·rw [hpe]
   rw [xa] at hv
   split at hv
   ·cases hv
    refine zp7 f2 fun b hb=>?_
    obtain ⟨z,h1,h2⟩:=yt.1 hb
    exact (hav z h1 b h2).1
   ·exact SV.ok_mono (fun y hy h=>hy (hsub y h)) v (I.a1 t v hv)
  ·rw [hpe] at hc ⊢
   by_cases hcp:c∈xu (y7 listed late)
   ·obtain ⟨z,h1,h2⟩:=yt.1 hcp
    have hzx:z=x:=by
      rw [hAB] at h1
      rcases List.mem_append.1 h1 with h|h
      ·exact absurd (yt.2 ⟨z,by simp [h],h2⟩) hc
      ·rcases List.mem_cons.1 h with h|h
       ·exact h
       ·exact absurd (yt.2 ⟨z,by simp [h],h2⟩) hc
    subst hzx
    refine z3d (I.hpok c el ps hcc) fun b hb=>?_
    obtain ⟨y,g1,g2⟩:=yt.1 hb
    exact (hav y g1 b g2).2 c el ps h2 hcc
   ·exact yq (fun y hy h=>hy (hsub y h)) _ (I.a2 c el ps hcp hcc)
theorem Inv.exec (hE: ∀w',Ext (zgf ρ0 hp0) w0 w'→Γ.E w') (I:Inv P Γ ops K ρ0 hp0 w0 listed a w pre ss late tm hp ρ tmR) {x:Late} (hx:x∈y7 listed late) (hrd: ∀e∈xk x.o,listed.getD e false=true) {Kc:Act→World→Prop}
    (hK: ∀a' w' ρ' tmR',Inv P Γ ops K ρ0 hp0 w0 (listed.setIfInBounds x.i true) a' w' pre ss late tm hp ρ' tmR'→Kc a' w'):wpOp P ops Q x.i Kc a w:=by
  obtain ⟨hxl,hxu⟩:=xb.1 hx
  have hbef: ∀{k:Nat},Before ops k x.i→listed.getD k false=true:=fun hb=>
    hb.listed (L:=fun i=>listed.getD i false=true) I.down fun o ho e he=>hrd e (by rw [I.get x hxl] at ho;cases ho;exact he)
  obtain ⟨A,B,hAB,hpe,f1,f2,f3,hav,hI⟩:=I.core hx hrd
  have hsame:(∀b,x.k≠ .maker b)→ ∀b,b∈xu (y7 listed late)→b∈xu (A++B):=fun hk b hb=>by
    obtain ⟨z,h1,h2⟩:=yt.1 hb
    rw [hAB] at h1
    rcases List.mem_append.1 h1 with h|h
    ·exact yt.2 ⟨z,by simp [h],h2⟩
    ·rcases List.mem_cons.1 h with h|h
     ·subst h;exact absurd h2 (hk b)
     ·exact yt.2 ⟨z,by simp [h],h2⟩
  unfold zan at f1
  split at f1
  ·rename_i hk
   have hst:Step ρ0 hp0 w0 ρ (mask (xu (A++B)) hp) w:=I.step.sub (by simp [ya]) fun k el ps hkk=>by
     rw [y5] at hkk ⊢
     exact ⟨fun h=>hkk.1 (hsame (fun b h=>by rw [hk] at h;cases h) k h),hkk.2⟩
   exact (f1 ρ a I.tmr).wpOp (I.get x hxl) (hK _ _ _ _ (hI _ w ρ (I.tmr.put f3 f2) hst))
  ·rename_i M hk
   have hst:Step ρ0 hp0 w0 ρ (mask (xu (A++B)) hp) w:=I.step.sub (by simp [ya]) fun k el ps hkk=>by
     rw [y5] at hkk ⊢
     exact ⟨fun h=>hkk.1 (hsame (fun b h=>by rw [hk] at h;cases h) k h),hkk.2⟩
   have hrel:HpRel ρ (mask M hp) w:=I.step.rel.sub fun k el ps hkk=>by
     rw [y5] at hkk ⊢
     refine ⟨⟨fun h=>hkk.1 ?_,hkk.2⟩,by rw [ya];exact I.hpok k el ps hkk.2⟩
     obtain ⟨z,h1,h2⟩:=yt.1 h
     refine (I.rmask x hxl M hk z (xb.1 h1).1 k h2).resolve_left fun hb=>?_
     have:=(xb.1 h1).2
     rw [hbef hb] at this;cases this
   exact zba (I.get x hxl) (f1.1 ρ a I.tmr) (f1.2 ρ a w I.tmr hrel (hE w I.step.ext)) (hK _ _ _ _ (hI _ w ρ (I.tmr.put f3 f2) hst))
  ·rename_i b hk
   obtain ⟨hw,el,ps,h1,h2,h3,h4,h5⟩:=f1
   have hbp:b∈xu (y7 listed late):=yt.2 ⟨x,hx,hk⟩
   obtain ⟨hb0,hbl⟩:=I.mblk x hxl b hk
   have htm:TmRel Γ.nt (upd ρ b w.heap.size) hp.length tmR a:=I.tmr.re fun t v hv=>
     SV.den_congr (p:=(· ∉xu (y7 listed late))) (fun k hk'=>by
       have:k≠b:=fun e=>hk' (e ▸ hbp)
       simp [upd,this]) v (I.a1 t v hv)
   refine zba (I.get x hxl) (hw ρ a I.tmr) (h5 ρ a I.tmr (upd ρ b w.heap.size) w (by simp [upd])) (hK _ _ _ _ (hI _ _ (upd ρ b w.heap.size) (htm.put f3 f2) ?_))
   refine I.step.place hb0 (by rwa [ya]) (fun el ps h=>(y5.1 h).1 hbp) (el:=el) (by rwa [ya]) h4 (fun k el' qs hkk=>?_) (by simp [ya]) (fun k el' qs hkk=>?_)
   ·rw [y5] at hkk
    exact yq (fun y (hy:y∉xu (y7 listed late)) (e:y=b)=>hy (by rw [e];exact hbp)) _ (I.a2 k el' qs hkk.1 hkk.2)
   ·rw [y5] at hkk
    by_cases hkb:k=b
    ·subst hkb
     rw [h1] at hkk
     have:=hkk.2
     cases this
     exact .inr ⟨rfl,rfl,rfl⟩
    ·refine .inl ⟨hkb,y5.2 ⟨fun h=>?_,hkk.2⟩⟩
     obtain ⟨z,g1,g2⟩:=yt.1 h
     rw [hAB] at g1
     rcases List.mem_append.1 g1 with h|h
     ·exact hkk.1 (yt.2 ⟨z,by simp [h],g2⟩)
     ·rcases List.mem_cons.1 h with h|h
      ·subst h;rw [hk] at g2;cases g2;exact hkb rfl
      ·exact hkk.1 (yt.2 ⟨z,by simp [h],g2⟩)
def zl3 (Γ:Ctx) (all:List Oper) (s:PStep) (ss:List PStep) (o:Oper) (late:List Late) (tm:List (Nat×SV)) (hp:List Blk) (K:St→Prop):Prop:=
  zbj s.loose late fun M=>zj4 M hp fun hm=>zbf Γ o.op tm hm
          (fun v hp1=>zdy M v (zcz M hp1 (zes hp M hp1 fun hp2=>zcw Γ.nt tm hp2 o.dst v fun st=>match st with|⟨tm',hp'⟩=>reK Γ tm' hp' s.loose late (zd0 Γ all ss late tm' hp' K))))
          (fun hp1=>zcz M hp1 (zes hp M hp1 fun hp2=>match o.dst with
            |none=>reK Γ tm hp2 s.loose late (zd0 Γ all ss late tm hp2 K)
            |some _=>False))
theorem zv9 (hns: ∀(j:Nat) (o:Oper) cs b,ops[j]?=some o→o.op≠ .select cs b) {o:Oper} {i:Nat} (ho:ops[i]?=some o): ∀{xs:List Late} {tm tm':List (Nat×SV)} {a:Act},xz P Γ ops hp tm xs tm'→TmRel Γ.nt ρ hp.length tm a→
    (∀y∈xs,∀d,y.o.dst=some d→d∉o.looksAt ops)→
    ∃a',TmRel Γ.nt ρ hp.length tm' a'∧execOp a'.eval o=execOp a.eval o∧Region.wanted o (yielded ops a'.tmps)=Region.wanted o (yielded ops a.tmps)
  | [],_,_,a,h,ht,_=>⟨a,ht.same fun t=>(h t).symm,rfl,rfl⟩
  |x ::xs,_,_,a,⟨_,h2,h3,h4⟩,ht,hd=>by
   obtain ⟨a',g1,g2,g3⟩:=zv9 hns ho h4 (ht.put h3 h2) (fun y hy=>hd y (by simp [hy]))
   exact ⟨a',g1,by rw [g2,execOp_put o (fun cs b=>hns _ _ cs b ho) a _ _ (hd x (by simp))],by rw [g3,wanted_put o a _ _ (hd x (by simp))]⟩
theorem Inv.anchor (hΓ:CtxOK P Γ) (I:Inv P Γ ops K ρ0 hp0 w0 listed a w pre (s ::ss) late tm hp ρ tmR) {o:Oper} {T':Table} (S:StepOK Γ ops pre s ss o) (hT:zey ops T') (hpl:zdj ops Γ (s ::pre) ss T'=true)
    (hka:za1 Γ o.op= .anchor) (hw:zg4 Γ ops hp.length o tm) (hvc:zl3 Γ ops.toList s ss o late tm hp K) (hrd: ∀e∈xk o,listed.getD e false=true) {Kc:Act→World→Prop}
    (hK: ∀a' w' hp' ρ' tm' tmR',Inv P Γ ops K ρ0 hp0 w0 (listed.setIfInBounds s.i true) a' w' (s ::pre) ss late tm' hp' ρ' tmR'→Kc a' w'):wpOp P ops Q s.i Kc a w:=by
  have hns: ∀(j:Nat) (o:Oper) cs b,ops[j]?=some o→o.op≠ .select cs b:=I.nsel
  have hlt:s.i<listed.size:=by rw [I.size];exact (Array.getElem?_eq_some_iff.1 S.get).1
  have hne: ∀x∈late,x.i≠s.i:=fun x hx=>by obtain ⟨p,h1,h2⟩:=I.along.mem x hx;rw [←h2];exact S.new p h1
  have hbef: ∀{k:Nat},Before ops k s.i→listed.getD k false=true:=fun hb=>
    hb.listed (L:=fun i=>listed.getD i false=true) I.down fun o' ho' e he=>hrd e (by rw [S.get] at ho';cases ho';exact he)
  have hlo: ∀x∈y7 listed late,x.i∈s.loose∧x.o.apart ops o=true:=fun x hx=>by
    obtain ⟨hxl,hxu⟩:=xb.1 hx
    obtain ⟨p,h1,h2⟩:=I.along.mem x hxl
    rcases S.pairs p h1 with ⟨g1,y,g2,g3⟩|⟨g1,g2⟩
    ·rw [h2] at g1 g2
     rw [I.get x hxl] at g2
     cases g2
     exact ⟨g1,g3⟩
    ·rw [h2] at g2;rw [hbef g2] at hxu;cases hxu
  have hpe:y7 (listed.setIfInBounds s.i true) late=y7 listed late:=by
    unfold y7
    congr 1
    apply List.filter_congr
    intro y hy
    rw [getD_set_ne false (fun h=>hne y hy h.symm)]
  obtain ⟨htm,hxs⟩:=zik I.chain I.tmr.okay
  obtain ⟨a1,ha1,hex,hwa⟩:=zv9 hns S.get I.chain I.tmr fun y hy d hd=>(Oper.apart_spec (hlo y hy).2).1 d hd
  have hwant:Region.wanted o (yielded ops a.tmps)=true:=by rw [←hwa];exact hw ρ a1 ha1
  have hD: ∀b∈xu (y7 listed late),b∈zah s.loose late:=fun b hb=>by
    obtain ⟨z,h1,h2⟩:=yt.1 hb
    exact zao.2 ⟨z,(xb.1 h1).1,h2,(hlo z h1).1⟩
  have hM: ∀b∈zah s.loose late,b<hp.length:=fun b hb=>by
    obtain ⟨z,h1,h2,_⟩:=zao.1 hb
    exact (I.mblk z h1 b h2).2
  have h1:=zkk (zb5 hvc)
  clear hvc
  generalize hMd:zah s.loose late=M at*
  have hrel:HpRel ρ (mask M hp) w:=I.step.rel.sub fun k el ps hk=>by
    rw [y5] at hk ⊢
    exact ⟨⟨fun h=>hk.1 (hD k h),hk.2⟩,by rw [ya];exact I.hpok k el ps hk.2⟩
  have core: ∀(v:SV) (ρ':Nat→Nat) (hp1:List Blk) (w':World) (tm':List (Nat×SV)),v.ok (· <hp1.length)→v.ok (· ∉M)→Step ρ (mask M hp) w ρ' hp1 w'→(∀d,o.dst=some d→d<Γ.nt)→
   zcz M hp1 (zes hp M hp1 fun hp2=>tm'=zav tm o.dst v∧reK Γ tm' hp2 s.loose late (zd0 Γ ops.toList ss late tm' hp2 K))→Kc (a.put o.dst (v.den ρ')) w':=by
    intro v ρ' hp1 w' tm' hv hvM T hd hf
    obtain ⟨hf,hfree⟩:=zib hf
    obtain ⟨⟨rfl,hf⟩,hMl⟩:=zku hf
    obtain ⟨hvc,hre⟩:=zv2 hf
    have hget: ∀k,(zci hp M hp1)[k]?=if k∈M then hp[k]? else hp1[k]?:=fun k=>zlx hMl
    have hlen:(zci hp M hp1).length=hp1.length:=zg7
    have hle:hp.length≤(zci hp M hp1).length:=by have:=T.le;rw [ya] at this;omega
    have hsame: ∀k,k<hp.length→ρ' k=ρ k:=fun k hk=>T.same k (by rwa [ya])
    have hst:=I.step.through hD hM T hlen hget
    have htm':TmRel Γ.nt ρ' (zci hp M hp1).length (zav tmR o.dst v) (a.put o.dst (v.den ρ')):=(I.tmr.later hsame hle).put hd (by rw [hlen];exact hv)
    refine hK _ _ _ ρ' _ (zav tmR o.dst v) {I with
      size:=by simp [I.size]
      down:=fun i o' hi ho e he=>?_
      real:=fun i hi=>?_
      virt:=fun p hp=>?_
      along:= .skip I.along
      mblk:=fun z hz b hb=>by have:=I.mblk z hz b hb;exact ⟨this.1,by omega⟩
      avoid:=fun y hy z hz b hb hyz=>?_
      tmr:=htm'
      chain:=?_
      step:=by rw [hpe];exact hst
      hpok:=fun k el ps hk=>?_
      a1:=fun t u hu=>?_
      a2:=fun c el ps hc hcc=>?_
      plan:=⟨T',hT,hpl⟩
      vc:=hvc}
    ·rw [zbn hlt] at hi ⊢
     rcases hi with rfl|hi
     ·rw [S.get] at ho;cases ho;exact .inr (hrd e he)
     ·exact .inr (I.down i o' hi ho e he)
    ·rw [zbn hlt] at hi
     rcases hi with rfl|hi
     ·exact ⟨s,by simp,rfl⟩
     ·obtain ⟨p,h1,h2⟩:=I.real i hi;exact ⟨p,by simp [h1],h2⟩
    ·rw [zbn hlt]
     rcases List.mem_cons.1 hp with rfl|hp
     ·exact .inl (.inl rfl)
     ·rcases I.virt p hp with h|h
      ·exact .inl (.inr h)
      ·exact .inr h
    ·rw [hpe] at hy hz
     rcases I.avoid y hy z hz b hb hyz with h|⟨h,h'⟩
     ·exact .inl h
     ·refine .inr ⟨h,fun c el ps hc hcc=>h' c el ps hc ?_⟩
      rw [hget,if_pos (hD c (yt.2 ⟨y,hy,hc⟩))] at hcc
      exact hcc
    ·rw [hpe]
     obtain ⟨hself,hpair⟩:(∀x∈y7 listed late,∀M,x.k= .read M→(∀e,x.o.dst=some e→e∉x.o.looksAt ops))∧
         ((y7 listed late).Pairwise fun x y=> ∀M,x.k= .read M→ ∀e,y.o.dst=some e→e∉x.o.looksAt ops):=by
       obtain ⟨g1,g2⟩:=z2y I.along (S.reads hka) I.get
       refine ⟨fun x hx M' hM'=>(g1 x (xb.1 hx).1 (I.rkind x (xb.1 hx).1 M' hM') (hlo x hx).1).1,?_⟩
       have g3:(y7 listed late).Pairwise fun x y=>za1 Γ x.o.op= .read→x.i∈s.loose→ ∀e,y.o.dst=some e→e∉x.o.looksAt ops:=by
         unfold y7
         rw [List.pairwise_reverse]
         exact g2.filter _
       refine g3.imp_of_mem fun {x y} hx hy h M' hM'=>h (I.rkind x (xb.1 hx).1 M' hM') (hlo x hx).1
     refine I.chain.anchor hns hle rfl hd (by rw [hlen];exact hv) I.tmr.okay (fun x hx=>⟨I.get x (xb.1 hx).1,(hlo x hx).2⟩) (fun x hx b hb=>by rw [hget,if_pos (hD b (yt.2 ⟨x,hx,hb⟩))])
       (fun x hx M' hM' ρ2 a2 w2 ht2 hw2 hE2=>?_) hpair hself
     obtain ⟨u,rfl,_,hr⟩:=zki (P:=P) hΓ hw2 (by rw [ya];exact ht2) x.o (hre x (xb.1 hx).1 M' hM' (hlo x hx).1)
     exact hr hE2
    ·rw [hlen]
     rw [hget] at hk
     split at hk
     ·exact yq (fun x hx=>by omega) _ (I.hpok k el ps hk)
     ·exact (T.rel.mem k el ps hk).1
    ·rw [hpe]
     rw [xa] at hu
     split at hu
     ·cases hu;exact SV.ok_mono (fun x hx h=>hx (hD x h)) v hvM
     ·exact I.a1 t u hu
    ·rw [hpe] at hc ⊢
     rw [hget] at hcc
     split at hcc
     ·exact I.a2 c el ps hc hcc
     ·exact yq (fun x hx h=>hx (hD x h)) _ (hfree c el ps _ hcc (T.rel.mem c el ps hcc).1)
  have hval: ∀(v:SV) (ρ':Nat→Nat) (hp1:List Blk) (w':World),v.ok (· <hp1.length)→Step ρ (mask M hp) w ρ' hp1 w'→
   zdy M v (zcz M hp1 (zes hp M hp1 fun hp2=>zcw Γ.nt tm hp2 o.dst v fun st=>match st with|⟨tm',hp'⟩=>reK Γ tm' hp' s.loose late (zd0 Γ ops.toList ss late tm' hp' K)))→Kc (a.put o.dst (v.den ρ')) w':=by
    intro v ρ' hp1 w' hv T hf
    obtain ⟨hvM,hf⟩:=zkq hv hf
    have hd: ∀d,o.dst=some d→d<Γ.nt:=(zc8 (zku (zib hf).1).1).1
    refine core v ρ' hp1 w' (zav tm o.dst v) hv hvM T hd ?_
    have h2: ∀hp2,(zcw Γ.nt tm hp2 o.dst v fun st=>match st with|⟨tm',hp'⟩=>reK Γ tm' hp' s.loose late (zd0 Γ ops.toList ss late tm' hp' K))→
     (zav tm o.dst v=zav tm o.dst v∧reK Γ (zav tm o.dst v) hp2 s.loose late (zd0 Γ ops.toList ss late (zav tm o.dst v) hp2 K)):=fun hp2 h=>⟨rfl,(zc8 h).2⟩
    exact zgu hf fun h=>zjm h h2
  rcases zos hΓ hrel (by rw [ya];exact ha1) o h1 with ⟨v,ρ',hp1,w',hr,hv,T,hf⟩|⟨hp1,w',hr,T,hf⟩|⟨f,args,hr,hc⟩
  ·rw [hex] at hr
   exact zba S.get hwant hr (hval v ρ' hp1 w' hv T hf)
  ·rw [hex] at hr
   unfold wpOp
   simp only [S.get,hwant,if_true,Oper.wp,hr,Oper.upon]
   refine .inl ?_
   have hdn:o.dst=none:=by
     have:=(zku (zib hf).1).1
     cases hd:o.dst with
     |none=>rfl
     |some d=>rw [hd] at this;exact this.elim
   have:=core (.tup []) ρ hp1 w' tm (by simp [SV.ok,okL]) (by simp [SV.ok,okL]) (by
     exact T) (fun d hd=>by rw [hdn] at hd;cases hd) (zgu hf fun h=>zjm h fun hp2 h=>by
       rw [hdn] at h;rw [hdn];exact ⟨rfl,h⟩)
   rw [hdn] at this ⊢
   exact this
  ·rw [hex] at hr
   unfold wpOp
   simp only [S.get,hwant,if_true,Oper.wp,hr,Oper.upon]
   refine .inl (hc.mono fun e w' ⟨v,ρ',hp1,he,hv,T,hf⟩=>?_)
   subst he
   exact hval v ρ' hp1 w' hv T hf
end
end Go.Sym
