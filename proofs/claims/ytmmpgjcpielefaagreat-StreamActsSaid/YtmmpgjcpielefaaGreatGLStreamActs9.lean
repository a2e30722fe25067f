/-
  Contracts of functions of the program, each said of symbolic values, and plain laws; no condition beyond each statement's own.
-/
import Derived.Test.YtmmpgjcpielefaaGreatGLStreamActs8
set_option linter.unusedSimpArgs false
set_option linter.unusedVariables false
namespace Go.Sym
section
variable {P:Program} {Γ:Ctx} {ops:Array Oper}
def zgt (n:Nat) (tm:List (Nat×SV)):Prop:= ∀t v,y8 tm t=some v→v.ok (· <n)
theorem TmRel.okay {nt n:Nat} {ρ:Nat→Nat} {tm:List (Nat×SV)} {a:Act} (h:TmRel nt ρ n tm a):zgt n tm:=fun t v hv=>(h.val t v hv).1
theorem zgt.mono {n m:Nat} {tm:List (Nat×SV)} (h:zgt n tm) (hm:n≤m):zgt m tm:=fun t v hv=>SV.ok_mono (fun _ hk=>Nat.lt_of_lt_of_le hk hm) v (h t v hv)
theorem TmRel.down' {nt n m:Nat} {ρ:Nat→Nat} {tm:List (Nat×SV)} {a:Act} (h:TmRel nt ρ n tm a) (hm:n≤m):TmRel nt ρ m tm a:=
  ⟨h.size,h.defers,fun t v hv=>⟨SV.ok_mono (fun _ hk=>Nat.lt_of_lt_of_le hk hm) v (h.val t v hv).1,(h.val t v hv).2⟩⟩
theorem TmRel.down {nt n m:Nat} {ρ:Nat→Nat} {tm:List (Nat×SV)} {a:Act} (h:TmRel nt ρ m tm a) (hk:zgt n tm):TmRel nt ρ n tm a:=
  ⟨h.size,h.defers,fun t v hv=>⟨hk t v hv,(h.val t v hv).2⟩⟩
theorem TmRel.same {nt n:Nat} {ρ:Nat→Nat} {tm tm':List (Nat×SV)} {a:Act} (h:TmRel nt ρ n tm a) (hk: ∀t,y8 tm' t=y8 tm t):TmRel nt ρ n tm' a:=
  ⟨h.size,h.defers,fun t v hv=>h.val t v (by rw [←hk];exact hv)⟩
def zbn (tm:List (Nat×SV)) (d:Option Nat) (v:SV):List (Nat×SV):=
  match d with
  |some d=>(d,v) ::tm
  |none=>tm
theorem xm {tm:List (Nat×SV)} {d:Option Nat} {v:SV} {t:Nat}:y8 (zbn tm d v) t=if d=some t then some v else y8 tm t:=by
  cases d with
  |none=>simp [zbn]
  |some d=>simp [zbn,y8]
theorem zk1 {tm tm':List (Nat×SV)} (h: ∀t,y8 tm t=y8 tm' t) (d:Option Nat) (v:SV): ∀t,y8 (zbn tm d v) t=y8 (zbn tm' d v) t:=fun t=>by
  rw [xm,xm,h]
theorem zgt.put {n:Nat} {tm:List (Nat×SV)} (h:zgt n tm) {d:Option Nat} {v:SV} (hv:v.ok (· <n)):zgt n (zbn tm d v):=fun t u hu=>by
  rw [xm] at hu
  split at hu
  ·cases hu;exact hv
  ·exact h t u hu
theorem TmRel.put {nt n:Nat} {ρ:Nat→Nat} {tm:List (Nat×SV)} {a:Act} (h:TmRel nt ρ n tm a) {d:Option Nat} {v:SV} (hd: ∀x,d=some x→x<nt) (hv:v.ok (· <n)):
    TmRel nt ρ n (zbn tm d v) (a.put d (v.den ρ)):=by
  cases d with
  |none=>exact h
  |some d=>
   refine ⟨by simp [Act.put,h.size],h.defers,fun t u hu=>?_⟩
   rw [xm] at hu
   split at hu
   ·rename_i e;cases e;cases hu
    exact ⟨hv,by simp [Act.put,h.size,hd d rfl]⟩
   ·rename_i e
    obtain ⟨g1,g2⟩:=h.val t u hu
    exact ⟨g1,by simp only [Act.put];rw [Array.getElem?_setIfInBounds_ne (fun x=>e (by rw [x]))];exact g2⟩
theorem zej {nt:Nat} {tm:List (Nat×SV)} {hp:List Blk} {d:Option Nat} {v:SV} {K:St→Prop} (h:zd0 nt tm hp d v K):(∀x,d=some x→x<nt)∧K ⟨zbn tm d v,hp⟩:=by
  unfold zd0 at h
  split at h
  ·split at h
   ·rename_i d _ e
    exact ⟨fun x hx=>by cases hx;exact Nat.le_of_ble_eq_true e,h⟩
   ·exact h.elim
  ·exact ⟨fun x hx=>(by cases hx),h⟩
theorem TmRel.unput {nt n:Nat} {ρ:Nat→Nat} {tm:List (Nat×SV)} {a:Act} {d:Option Nat} {v:SV} (h:TmRel nt ρ n (zbn tm d v) a) (hk:zgt n tm): ∃u,TmRel nt ρ n tm (a.put d u):=by
  cases d with
  |none=>exact ⟨.bool true,h⟩
  |some d=>
   cases hu:y8 tm d with
   |none=>
    refine ⟨.bool true,by simp [Act.put,h.size],h.defers,fun t u ht=>?_⟩
    have hne:d≠t:=fun e=>by rw [←e,hu] at ht;cases ht
    refine ⟨hk t u ht,?_⟩
    simp only [Act.put]
    rw [Array.getElem?_setIfInBounds_ne hne]
    exact (h.val t u (by rw [xm,if_neg (fun e=>hne (Option.some.inj e))];exact ht)).2
   |some x=>
    have hd:d<nt:=by
      have:=(h.val d v (by rw [xm,if_pos rfl])).2
      have:=(Array.getElem?_eq_some_iff.1 this).1
      rwa [h.size] at this
    refine ⟨x.den ρ,by simp [Act.put,h.size],h.defers,fun t u ht=>⟨hk t u ht,?_⟩⟩
    by_cases hne:d=t
    ·subst hne
     rw [hu] at ht;cases ht
     simp [Act.put,h.size,hd]
    ·simp only [Act.put]
     rw [Array.getElem?_setIfInBounds_ne hne]
     exact (h.val t u (by rw [xm,if_neg (fun e=>hne (Option.some.inj e))];exact ht)).2
def zig (Γ:Ctx) (ops:Array Oper) (n:Nat) (o:Oper) (tm:List (Nat×SV)):Prop:= ∀ρ a,TmRel Γ.nt ρ n tm a→Region.wanted o (yielded ops a.tmps)=true
def zbb (P:Program) (Γ:Ctx) (ops:Array Oper) (hp:List Blk) (x:Late) (tm:List (Nat×SV)):Prop:=
  match x.k with
  | .pure=> ∀ρ a,TmRel Γ.nt ρ hp.length tm a→Yields P ops x.o (x.v.den ρ) a
  | .read M=>zig Γ ops hp.length x.o tm∧ ∀ρ a w,TmRel Γ.nt ρ hp.length tm a→HpRel ρ (mask M hp) w→Γ.E w→(execOp a.eval x.o).run P w= .ok (.value (x.v.den ρ)) w
  | .maker b=>zig Γ ops hp.length x.o tm∧ ∃el ps,hp[b]?=some (.mk el ps)∧okL (· <hp.length) ps∧x.v.ok (· =b)∧okL (· ≠b) ps∧
      ∀ρ a,TmRel Γ.nt ρ hp.length tm a→ ∀(ρ1:Nat→Nat) w,ρ1 b=w.heap.size→(execOp a.eval x.o).run P w= .ok (.value (x.v.den ρ1)) (w.alloc (.cells (zw ρ ps).toArray el))
variable {hp:List Blk}
theorem zbb.same {x:Late} {tm tm':List (Nat×SV)} (h:zbb P Γ ops hp x tm) (he: ∀t,y8 tm t=y8 tm' t):zbb P Γ ops hp x tm':=by
  unfold zbb zig at*
  split
  all_goals rename_i hk;simp only [hk] at h
  ·exact fun ρ a ht=>h ρ a (ht.same he)
  ·exact ⟨fun ρ a ht=>h.1 ρ a (ht.same he),fun ρ a w ht=>h.2 ρ a w (ht.same he)⟩
  ·obtain ⟨h0,el,ps,h1,h2,h3,h5,h4⟩:=h
   exact ⟨fun ρ a ht=>h0 ρ a (ht.same he),el,ps,h1,h2,h3,h5,fun ρ a ht=>h4 ρ a (ht.same he)⟩
theorem zbb.move {x:Late} {tm tm':List (Nat×SV)} (h:zbb P Γ ops hp x tm) (hs: ∀cs b,x.o.op≠ .select cs b)
    (hm: ∀(ρ:Nat→Nat) a,TmRel Γ.nt ρ hp.length tm' a→ ∃(d:Option Nat) (u:Value),(∀y,d=some y→y∉x.o.looksAt ops)∧TmRel Γ.nt ρ hp.length tm (a.put d u)):zbb P Γ ops hp x tm':=by
  unfold zbb zig at*
  have ex: ∀(a:Act) (d:Option Nat) (u:Value),(∀y,d=some y→y∉x.o.looksAt ops)→execOp (a.put d u).eval x.o=execOp a.eval x.o∧Region.wanted x.o (yielded ops (a.put d u).tmps)=Region.wanted x.o (yielded ops a.tmps):=
    fun a d u hd=>⟨execOp_put x.o hs a d u hd,wanted_put x.o a d u hd⟩
  split
  all_goals rename_i hk;simp only [hk] at h
  ·intro ρ a ht
   obtain ⟨d,u,hd,ht'⟩:=hm ρ a ht
   exact (h ρ _ ht').of_same (ex a d u hd).1.symm (ex a d u hd).2.symm
  ·refine ⟨fun ρ a ht=>?_,fun ρ a w ht hw hE=>?_⟩
   ·obtain ⟨d,u,hd,ht'⟩:=hm ρ a ht
    rw [←(ex a d u hd).2];exact h.1 ρ _ ht'
   ·obtain ⟨d,u,hd,ht'⟩:=hm ρ a ht
    rw [←(ex a d u hd).1];exact h.2 ρ _ w ht' hw hE
  ·obtain ⟨h0,el,ps,h1,h2,h3,h5,h4⟩:=h
   refine ⟨fun ρ a ht=>?_,el,ps,h1,h2,h3,h5,fun ρ a ht=>?_⟩
   ·obtain ⟨d,u,hd,ht'⟩:=hm ρ a ht
    rw [←(ex a d u hd).2];exact h0 ρ _ ht'
   ·obtain ⟨d,u,hd,ht'⟩:=hm ρ a ht
    rw [←(ex a d u hd).1];exact h4 ρ _ ht'
theorem zbb.back {x:Late} {tm:List (Nat×SV)} {d:Option Nat} {v:SV} (h:zbb P Γ ops hp x (zbn tm d v)) (hs: ∀cs b,x.o.op≠ .select cs b) (hd: ∀y,d=some y→y∉x.o.looksAt ops)
    (hn: ∀y,d=some y→y<Γ.nt) (hv:v.ok (· <hp.length)):zbb P Γ ops hp x tm:=
  h.move hs fun ρ _ ht=>⟨d,v.den ρ,hd,ht.put hn hv⟩
theorem zbb.forth {x:Late} {tm:List (Nat×SV)} {d:Option Nat} {v:SV} (h:zbb P Γ ops hp x tm) (hs: ∀cs b,x.o.op≠ .select cs b) (hd: ∀y,d=some y→y∉x.o.looksAt ops)
    (hk:zgt hp.length tm):zbb P Γ ops hp x (zbn tm d v):=
  h.move hs fun _ _ ht=>by obtain ⟨u,hu⟩:=ht.unput hk;exact ⟨d,u,hd,hu⟩
def zas (P:Program) (Γ:Ctx) (ops:Array Oper) (hp:List Blk):List (Nat×SV)→List Late→List (Nat×SV)→Prop
  |tm,[],tm'=> ∀t,y8 tm t=y8 tm' t
  |tm,x ::xs,tm'=>zbb P Γ ops hp x tm∧x.v.ok (· <hp.length)∧(∀d,x.o.dst=some d→d<Γ.nt)∧zas P Γ ops hp (zbn tm x.o.dst x.v) xs tm'
theorem zas.same: ∀{xs:List Late} {tm tm1 tm':List (Nat×SV)},zas P Γ ops hp tm xs tm'→(∀t,y8 tm t=y8 tm1 t)→zas P Γ ops hp tm1 xs tm'
  | [],_,_,_,h,he=>fun t=>by rw [←he];exact h t
  |_ ::_,_,_,_,⟨h1,h2,h3,h4⟩,he=>⟨h1.same he,h2,h3,zas.same h4 (zk1 he _ _)⟩
theorem zas.snoc: ∀{xs:List Late} {tm tm':List (Nat×SV)} {x:Late},zas P Γ ops hp tm xs tm'→zbb P Γ ops hp x tm'→x.v.ok (· <hp.length)→(∀d,x.o.dst=some d→d<Γ.nt)→
    zas P Γ ops hp tm (xs++ [x]) (zbn tm' x.o.dst x.v)
  | [],_,_,_,h,hf,hv,hd=>⟨hf.same fun t=>(h t).symm,hv,hd,zk1 h _ _⟩
  |_ ::_,_,_,_,⟨h1,h2,h3,h4⟩,hf,hv,hd=>⟨h1,h2,h3,zas.snoc h4 hf hv hd⟩
theorem zas.bubble (hs: ∀(j:Nat) (o:Oper) cs b,ops[j]?=some o→o.op≠ .select cs b) {x:Late} (hx:ops[x.i]?=some x.o) {B:List Late}: ∀{A:List Late} {tm tm':List (Nat×SV)},zas P Γ ops hp tm (A++x ::B) tm'→zgt hp.length tm→
    (∀y∈A,ops[y.i]?=some y.o∧y.o.apart ops x.o=true)→zas P Γ ops hp tm (x ::(A++B)) tm'
  | [],_,_,h,_,_=>h
  |y ::A,tm,tm',⟨h1,h2,h3,h4⟩,hk,hA=>by
   obtain ⟨g1,g2,g3,g4⟩:=zas.bubble hs hx h4 (hk.put h2) (fun z hz=>hA z (by simp [hz]))
   obtain ⟨hy,hap⟩:=hA y (by simp)
   obtain ⟨p1,p2,p3⟩:=Oper.apart_spec hap
   refine ⟨g1.back (fun cs b=>hs _ _ cs b hx) p1 h3 h2,g2,g3,h1.forth (fun cs b=>hs _ _ cs b hy) p3 hk,h2,h3,g4.same fun t=>?_⟩
   rw [xm,xm,xm,xm]
   by_cases e1:x.o.dst=some t
   ·have:y.o.dst≠some t:=fun e=>p2 t e e1
    rw [if_pos e1,if_neg this,if_pos e1]
   ·simp [e1]
def yav (tm:List (Nat×SV)):List Late→List (Nat×SV)
  | []=>tm
  |x ::xs=>yav (zbn tm x.o.dst x.v) xs
theorem zas.end_: ∀{xs:List Late} {tm tm':List (Nat×SV)},zas P Γ ops hp tm xs tm'→ ∀t,y8 (yav tm xs) t=y8 tm' t
  | [],_,_,h=>h
  |_ ::xs,_,_,⟨_,_,_,h4⟩=>zas.end_ (xs:=xs) h4
theorem zbb.backs {hp':List Blk} (hle:hp.length≤hp'.length) {x:Late} (hs: ∀cs b,x.o.op≠ .select cs b): ∀{xs:List Late} {tm tm':List (Nat×SV)},zas P Γ ops hp tm xs tm'→zbb P Γ ops hp' x (yav tm xs)→
    (∀y∈xs,∀d,y.o.dst=some d→d∉x.o.looksAt ops)→zbb P Γ ops hp' x tm
  | [],_,_,_,h,_=>h
  |y ::xs,tm,tm',⟨h1,h2,h3,h4⟩,h,hd=>
   (zbb.backs hle hs h4 h (fun z hz=>hd z (by simp [hz]))).back hs (hd y (by simp)) h3 (SV.ok_mono (fun _ hk=>Nat.lt_of_lt_of_le hk hle) _ h2)
theorem zbb.later {hp':List Blk} (hle:hp.length≤hp'.length) {x:Late} {tm:List (Nat×SV)} (h:zbb P Γ ops hp x tm) (hk:zgt hp.length tm)
    (hb: ∀b,x.k= .maker b→hp'[b]?=hp[b]?)
    (hr: ∀M,x.k= .read M→ ∀ρ a w,TmRel Γ.nt ρ hp'.length tm a→HpRel ρ (mask M hp') w→Γ.E w→(execOp a.eval x.o).run P w= .ok (.value (x.v.den ρ)) w):zbb P Γ ops hp' x tm:=by
  unfold zbb zig at*
  split
  all_goals rename_i hk';simp only [hk'] at h
  ·exact fun ρ a ht=>h ρ a (ht.down hk)
  ·exact ⟨fun ρ a ht=>h.1 ρ a (ht.down hk),hr _ hk'⟩
  ·obtain ⟨h0,el,ps,h1,h2,h3,h5,h4⟩:=h
   exact ⟨fun ρ a ht=>h0 ρ a (ht.down hk),el,ps,by rw [hb _ hk',h1],yz (fun _ h=>Nat.lt_of_lt_of_le h hle) _ h2,h3,h5,fun ρ a ht=>h4 ρ a (ht.down hk)⟩
theorem zas.anchor (hs: ∀(j:Nat) (o:Oper) cs b,ops[j]?=some o→o.op≠ .select cs b) {hp':List Blk} (hle:hp.length≤hp'.length) {d:Option Nat} {v:SV} {o:Oper} (hd:o.dst=d) (hn: ∀y,d=some y→y<Γ.nt) (hv:v.ok (· <hp'.length)):
    ∀{xs:List Late} {tm tm':List (Nat×SV)},zas P Γ ops hp tm xs tm'→zgt hp.length tm→(∀x∈xs,ops[x.i]?=some x.o∧x.o.apart ops o=true)→
    (∀x∈xs,∀b,x.k= .maker b→hp'[b]?=hp[b]?)→
    (∀x∈xs,∀M,x.k= .read M→ ∀ρ a w,TmRel Γ.nt ρ hp'.length (zbn tm' d v) a→HpRel ρ (mask M hp') w→Γ.E w→(execOp a.eval x.o).run P w= .ok (.value (x.v.den ρ)) w)→
    (xs.Pairwise fun x y=> ∀M,x.k= .read M→ ∀e,y.o.dst=some e→e∉x.o.looksAt ops)→
    (∀x∈xs,∀M,x.k= .read M→(∀e,x.o.dst=some e→e∉x.o.looksAt ops))→
    zas P Γ ops hp' (zbn tm d v) xs (zbn tm' d v)
  | [],_,_,h,_,_,_,_,_,_=>zk1 h _ _
  |x ::xs,tm,tm',h,hk,hap,hb,hr,hpw,hself=>by
   obtain ⟨h1,h2,h3,h4⟩:=h
   obtain ⟨hx,hxa⟩:=hap x (by simp)
   obtain ⟨p1,p2,p3⟩:=Oper.apart_spec hxa
   have hsx: ∀cs b,x.o.op≠ .select cs b:=fun cs b=>hs _ _ cs b hx
   have hk':zgt hp'.length tm:=hk.mono hle
   have h2':x.v.ok (· <hp'.length):=SV.ok_mono (fun _ hk=>Nat.lt_of_lt_of_le hk hle) _ h2
   have f:zbb P Γ ops hp' x tm:=by
     refine h1.later hle hk (hb x (by simp)) fun M hM=>?_
     have hr0:=hr x (by simp) M hM
     let x':Late:=⟨x.i,{x.o with guard:=none},x.v,.read M⟩
     have la: ∀y,y∈x'.o.looksAt ops→y∈x.o.looksAt ops:=fun y hy=>by
       simp only [x',Oper.looksAt,List.append_nil,List.mem_append] at hy ⊢
       exact .inl hy
     have ex: ∀a:Act,execOp a.eval x'.o=execOp a.eval x.o:=fun a=>by
       simp only [x']
       obtain ⟨dst,op,type,pos,after,guard⟩:=x.o
       cases op<;>rfl
     have f':zbb P Γ ops hp' x' (zbn tm' d v):=by
       unfold zbb
       simp only [x']
       refine ⟨fun ρ a _=>rfl,fun ρ a w ht hw hE=>?_⟩
       have:=ex a
       simp only [x'] at this
       rw [this];exact hr0 ρ a w ht hw hE
     have f'':zbb P Γ ops hp' x' tm:=by
       have g1:zbb P Γ ops hp' x' tm':=f'.back hsx (fun y hy hl=>p3 y (by rw [hd];exact hy) (la y hl)) hn hv
       have g2:zbb P Γ ops hp' x' (yav (zbn tm x.o.dst x.v) xs):=g1.same fun t=>(h4.end_ t).symm
       have g3:zbb P Γ ops hp' x' (zbn tm x.o.dst x.v):=zbb.backs (x:=x') hle hsx h4 g2 (fun y hy e he hl=>(List.pairwise_cons.1 hpw).1 y hy M hM e he (la e hl))
       exact g3.back hsx (fun y hy hl=>hself x (by simp) M hM y hy (la y hl)) h3 h2'
     unfold zbb at f''
     simp only [x'] at f''
     intro ρ a w ht hw hE
     have:=ex a
     simp only [x'] at this
     rw [←this];exact f''.2 ρ a w ht hw hE
   refine ⟨f.forth hsx (fun y hy=>p3 y (by rw [hd];exact hy)) hk',h2',h3,?_⟩
   have ih:=zas.anchor hs hle hd hn hv h4 (hk.put h2) (fun y hy=>hap y (by simp [hy])) (fun y hy=>hb y (by simp [hy])) (fun y hy=>hr y (by simp [hy])) (List.pairwise_cons.1 hpw).2 (fun y hy=>hself y (by simp [hy]))
   refine ih.same fun t=>?_
   rw [xm,xm,xm,xm]
   by_cases e1:d=some t
   ·have:x.o.dst≠some t:=fun e=>p2 t e (by rw [hd];exact e1)
    rw [if_pos e1,if_neg this,if_pos e1]
   ·simp [e1]
theorem zas.grow {b:Blk} (hok: ∀(k:Nat) el ps,hp[k]?=some (Blk.mk el ps)→okL (· <hp.length) ps):
    ∀{xs:List Late} {tm tm':List (Nat×SV)},zas P Γ ops hp tm xs tm'→zgt hp.length tm→(∀x∈xs,∀c,x.k= .maker c→c<hp.length)→zas P Γ ops (hp++ [b]) tm (addM hp.length xs) tm'
  | [],_,_,h,_,_=>h
  |x ::xs,tm,tm',⟨h1,h2,h3,h4⟩,hk,hc=>by
   have hle:hp.length≤(hp++ [b]).length:=by simp
   have ih:=zas.grow (b:=b) hok h4 (hk.put h2) (fun y hy=>hc y (by simp [hy]))
   have h2':x.v.ok (· <(hp++ [b]).length):=SV.ok_mono (fun _ hk=>Nat.lt_of_lt_of_le hk hle) _ h2
   obtain ⟨i,o,v,kx⟩:=x
   cases kx with
   |pure=>exact ⟨h1.later hle hk (fun _ h=>by cases h) (fun _ h=>by cases h),h2',h3,ih⟩
   |maker c=>
    refine ⟨h1.later hle hk (fun b' h=>?_) (fun _ h=>by cases h),h2',h3,ih⟩
    cases h
    rw [List.getElem?_append_left (hc ⟨i,o,v,.maker c⟩ (by simp) c rfl)]
   |read M=>
    refine ⟨?_,h2',h3,ih⟩
    refine ⟨fun ρ a ht=>h1.1 ρ a (ht.down hk),fun ρ a w ht hw=>h1.2 ρ a w (ht.down hk) (hw.sub fun k el ps hkk=>?_)⟩
    rw [xc] at hkk
    have hkl:k<hp.length:=(List.getElem?_eq_some_iff.1 hkk.2).1
    refine ⟨xc.2 ⟨?_,by rw [List.getElem?_append_left hkl];exact hkk.2⟩,by rw [yh];exact hok k el ps hkk.2⟩
    simp only [List.mem_cons,not_or]
    exact ⟨Nat.ne_of_lt hkl,hkk.1⟩
end
end Go.Sym

namespace Go.Sym
section
variable {P:Program} {Γ:Ctx} {ops:Array Oper}
inductive Before (ops:Array Oper):Nat→Nat→Prop
  |edge {e j:Nat} {o:Oper}:ops[j]?=some o→e∈x5 o→Before ops e j
  |trans {e j k:Nat} {o:Oper}:ops[j]?=some o→e∈x5 o→Before ops k e→Before ops k j
theorem zmg {o:Oper} {e:Nat}:e∈x5 o↔ ∃x∈o.after,Region.binds .any x=true∧x.on=e:=by
  unfold x5
  simp only [List.mem_map,List.mem_filter,Array.mem_toList_iff]
  constructor
  ·rintro ⟨x,⟨h1,h2⟩,h3⟩;exact ⟨x,h1,h2,h3⟩
  ·rintro ⟨x,h1,h2,h3⟩;exact ⟨x,⟨h1,h2⟩,h3⟩
theorem Before.listed {L:Nat→Prop} (down: ∀i o,L i→ops[i]?=some o→ ∀e∈x5 o,L e) {k j:Nat} (h:Before ops k j):(∀o,ops[j]?=some o→ ∀e∈x5 o,L e)→L k:=by
  induction h with
  |edge ho he=>exact fun hj=>hj _ ho _ he
  |trans ho he _ ih=>exact fun hj=>ih fun o ho'=>down _ o (hj _ ho _ he) ho'
theorem zhh {i:Nat}: ∀{l:List PStep},zt8 i l=true↔ ∃s∈l,s.i=i
  | []=>by simp [zt8]
  |x ::xs=>by
   simp only [zt8,Bool.or_eq_true,zhh,List.mem_cons]
   rw [show (Nat.beq x.i i=true)=(x.i=i) from propext ⟨Nat.eq_of_beq_eq_true,fun h=>by rw [h];exact Nat.beq_refl i⟩]
   constructor
   ·rintro (h|⟨s,h1,h2⟩)
    ·exact ⟨x,.inl rfl,h⟩
    ·exact ⟨s,.inr h1,h2⟩
   ·rintro ⟨s,rfl|h1,h2⟩
    ·exact .inl h2
    ·exact .inr ⟨s,h1,h2⟩
def zga (ops:Array Oper) (T:Table):Prop:= ∀i k,Nat.testBit (zri T i) k=true→Before ops k i
theorem zip {T:Table} (hT:zga ops T) {j:Nat} {o:Oper} (ho:ops[j]?=some o) {k:Nat}: ∀{es:List Nat},(∀e∈es,e∈x5 o)→Nat.testBit (zfb T es) k=true→Before ops k j
  | [],_,h=>by simp [zfb] at h
  |e ::es,he,h=>by
   have h':Nat.testBit ((1<<<e|||zri T e)|||zfb T es) k=true:=h
   rw [Nat.testBit_or,Nat.testBit_or,Bool.or_eq_true,Bool.or_eq_true] at h'
   rcases h' with (h1|h1)|h1
   ·rw [Nat.testBit_shiftLeft] at h1
    simp only [Bool.and_eq_true,decide_eq_true_eq] at h1
    have:k-e=0:=by
      have:=h1.2
      rw [Nat.testBit_one_eq_true_iff_self_eq_zero] at this
      exact this
    have:k=e:=by omega
    subst this
    exact .edge ho (he _ (by simp))
   ·exact .trans ho (he e (by simp)) (hT _ _ h1)
   ·exact zip hT ho (fun x hx=>he x (by simp [hx])) h1
theorem zga.cons {T:Table} (hT:zga ops T) {j:Nat} {o:Oper} (ho:ops[j]?=some o):zga ops ((j,zfb T (x5 o)) ::T):=by
  intro i k h
  simp only [zri] at h
  split at h
  ·rename_i e
   have:j=i:=by simpa using e
   subst this
   exact zip hT ho (fun _ h=>h) h
  ·exact hT i k h
theorem zuz {s:PStep} {o:Oper} {m:Nat} (hm: ∀k,Nat.testBit m k=true→Before ops k s.i): ∀{pre:List PStep},zud ops s o m pre=true→ ∀x∈pre,
    (x.i∈s.loose∧ ∃y,ops[x.i]?=some y∧y.apart ops o=true)∨(x.i∉s.loose∧Before ops x.i s.i)
  | [],_=>by simp
  |y ::ys,h=>by
   simp only [zud,Bool.and_eq_true] at h
   intro x hx
   rcases List.mem_cons.1 hx with rfl|hx
   ·have h1:=h.1
    split at h1
    ·rename_i e
     split at h1
     ·rename_i y hy;exact .inl ⟨zax.1 e,y,hy,h1⟩
     ·cases h1
    ·rename_i e
     exact .inr ⟨fun hl=>(by rw [zax.2 hl] at e;cases e),hm _ h1⟩
   ·exact zuz hm h.2 x hx
structure StepOK (Γ:Ctx) (ops:Array Oper) (pre:List PStep) (s:PStep) (ss:List PStep) (o:Oper):Prop where
  get:ops[s.i]?=some o
  new: ∀x∈pre,x.i≠s.i
  edges: ∀e∈x5 o,∃x∈pre,x.i=e
  pairs: ∀x∈pre,(x.i∈s.loose∧ ∃y,ops[x.i]?=some y∧y.apart ops o=true)∨(x.i∉s.loose∧Before ops x.i s.i)
  forced:zbx Γ o.op= .anchor→ ∀t∈ss,∃u,ops[t.i]?=some u∧ ∃e∈x5 u,∀x∈pre,x.i≠e
  reads:zbx Γ o.op= .anchor→zk8 ops Γ s.loose pre [o.dst]=true
theorem yb1 {pre:List PStep} {s:PStep} {ss:List PStep} {T:Table} (hT:zga ops T) (h:ze8 ops Γ pre (s ::ss) T=true):
    ∃o T',StepOK Γ ops pre s ss o∧zga ops T'∧ze8 ops Γ (s ::pre) ss T'=true:=by
  simp only [ze8] at h
  split at h
  ·cases h
  ·rename_i o ho
   simp only [Bool.and_eq_true,Bool.not_eq_true'] at h
   obtain ⟨⟨⟨⟨h1,h2⟩,h3⟩,h4⟩,h5⟩:=h
   have hnot: ∀{i:Nat} {l:List PStep},zt8 i l=false→ ∀x∈l,x.i≠i:=fun hf x hx he=>by
     rw [zhh.2 ⟨x,hx,he⟩] at hf;cases hf
   refine ⟨o,_,⟨ho,hnot h1,?_,zuz (fun k hk=>zip hT ho (fun _ h=>h) hk) h3,?_,?_⟩,hT.cons ho,h5⟩
   ·intro e he
    rw [List.all_eq_true] at h2
    obtain ⟨x,hx,hxe⟩:=zhh.1 (h2 e he)
    exact ⟨x,hx,hxe⟩
   ·intro hk t ht
    rw [hk] at h4
    simp only [Bool.and_eq_true,List.all_eq_true] at h4
    have h6:=h4.1 t ht
    split at h6
    ·rename_i u hu
     rw [List.any_eq_true] at h6
     obtain ⟨e,he,hne⟩:=h6
     exact ⟨u,hu,e,he,hnot (by simpa using hne)⟩
    ·cases h6
   ·intro hk
    rw [hk] at h4
    simp only [Bool.and_eq_true] at h4
    exact h4.2
inductive Along:List Late→List PStep→Prop
  |nil:Along [] []
  |skip {l:List Late} {pre:List PStep} {p:PStep}:Along l pre→Along l (p ::pre)
  |take {l:List Late} {pre:List PStep} {p:PStep} {x:Late}:x.i=p.i→Along l pre→Along (x ::l) (p ::pre)
theorem Along.mem {l:List Late} {pre:List PStep} (h:Along l pre): ∀x∈l,∃p∈pre,p.i=x.i:=by
  induction h with
  |nil=>simp
  |skip _ ih=>intro x hx;obtain ⟨p,h1,h2⟩:=ih x hx;exact ⟨p,by simp [h1],h2⟩
  |take he _ ih=>
   intro x hx
   rcases List.mem_cons.1 hx with rfl|hx
   ·exact ⟨_,by simp,he.symm⟩
   ·obtain ⟨p,h1,h2⟩:=ih x hx;exact ⟨p,by simp [h1],h2⟩
theorem z8s {L:List Nat} {late:List Late} {pre:List PStep} (hal:Along late pre): ∀{ds:List (Option Nat)},zk8 ops Γ L pre ds=true→(∀x∈late,ops[x.i]?=some x.o)→
    (∀x∈late,zbx Γ x.o.op= .read→x.i∈L→(∀e,x.o.dst=some e→e∉x.o.looksAt ops)∧ ∀d∈ds,∀e,d=some e→e∉x.o.looksAt ops)∧
    (late.Pairwise fun y x=>zbx Γ x.o.op= .read→x.i∈L→ ∀e,y.o.dst=some e→e∉x.o.looksAt ops):=by
  induction hal with
  |nil=>intro ds _ _;simp
  |skip hal ih=>
   intro ds h hget
   simp only [zk8] at h
   split at h
   ·rename_i y hy
    simp only [Bool.and_eq_true] at h
    obtain ⟨g1,g2⟩:=ih h.2 hget
    exact ⟨fun z hz hk hl=>⟨(g1 z hz hk hl).1,fun d hd=>(g1 z hz hk hl).2 d (by simp [hd])⟩,g2⟩
   ·cases h
  | @take l pre p x he hal ih=>
    intro ds h hget
    simp only [zk8] at h
    split at h
    ·rename_i y hy
     have hxy:y=x.o:=by
       have:=hget x (by simp)
       rw [he,hy] at this
       exact Option.some.inj this
     subst hxy
     simp only [Bool.and_eq_true] at h
     obtain ⟨h1,h2⟩:=h
     obtain ⟨g1,g2⟩:=ih h2 (fun z hz=>hget z (by simp [hz]))
     refine ⟨fun z hz hk hl=>?_,List.pairwise_cons.2 ⟨fun z hz hk hl e hd=>?_,g2⟩⟩
     ·rcases List.mem_cons.1 hz with rfl|hz
      ·rw [hk,zax.2 (he ▸ hl)] at h1
       simp only [List.all_eq_true] at h1
       have key: ∀d∈z.o.dst ::ds,∀e,d=some e→e∉z.o.looksAt ops:=fun d hd e hde=>by
         have:=h1 d hd
         rw [hde] at this
         simpa using this
       exact ⟨key _ (by simp),fun d hd=>key d (by simp [hd])⟩
      ·exact ⟨(g1 z hz hk hl).1,fun d hd=>(g1 z hz hk hl).2 d (by simp [hd])⟩
     ·exact (g1 z hz hk hl).2 _ (by simp) e hd
    ·cases h
def za5 (L:List Nat):List Late→List Nat
  | []=> []
  |x ::xs=>match x.k with
   | .maker b=>if zbv L x.i then b ::za5 L xs else za5 L xs
   |_=>za5 L xs
theorem zdb {L:List Nat}: ∀{late:List Late} {k:List Nat→Prop},zcg L late k→k (za5 L late)
  | [],_,h=>h
  |⟨i,o,v,kx⟩ ::xs,k,h=>by
   cases kx with
   |pure=>exact zdb (late:=xs) h
   |read M=>exact zdb (late:=xs) h
   |maker b=>
    simp only [zcg] at h
    simp only [za5]
    split at h
    ·rename_i e;rw [if_pos e];exact zdb (late:=xs) h
    ·rename_i e;rw [if_neg (by rw [e];simp)];exact zdb (late:=xs) h
theorem zbk {L:List Nat} {b:Nat}: ∀{late:List Late},b∈za5 L late↔ ∃x∈late,x.k= .maker b∧x.i∈L
  | []=>by simp [za5]
  |x ::xs=>by
   simp only [za5]
   split
   ·rename_i c hc
    split
    ·rename_i e
     rw [zax] at e
     simp only [List.mem_cons,zbk]
     constructor
     ·rintro (rfl|⟨y,h1,h2⟩)
      ·exact ⟨x,.inl rfl,hc,e⟩
      ·exact ⟨y,.inr h1,h2⟩
     ·rintro ⟨y,rfl|h1,h2,h3⟩
      ·rw [hc] at h2;cases h2;exact .inl rfl
      ·exact .inr ⟨y,h1,h2,h3⟩
    ·rename_i e
     rw [zax] at e
     rw [zbk]
     constructor
     ·rintro ⟨y,h1,h2⟩;exact ⟨y,by simp [h1],h2⟩
     ·rintro ⟨y,h1,h2,h3⟩
      rcases List.mem_cons.1 h1 with rfl|h1
      ·exact absurd h3 e
      ·exact ⟨y,h1,h2,h3⟩
   ·rename_i hc
    rw [zbk]
    constructor
    ·rintro ⟨y,h1,h2⟩;exact ⟨y,by simp [h1],h2⟩
    ·rintro ⟨y,h1,h2,h3⟩
     rcases List.mem_cons.1 h1 with rfl|h1
     ·exact absurd h2 (hc b)
     ·exact ⟨y,h1,h2,h3⟩
theorem z1j {tm:List (Nat×SV)} {hp:List Blk} {L:List Nat}: ∀{late:List Late} {p:Prop},reK Γ tm hp L late p→
    p∧ ∀x∈late,∀M,x.k= .read M→x.i∈L→ze6 Γ x.o.op tm (mask M hp) fun v=>v=x.v
  | [],_,h=>⟨h,by simp⟩
  |x ::xs,p,h=>by
   simp only [reK] at h
   split at h
   ·rename_i M hM
    split at h
    ·have h1:=zm3 h
     obtain ⟨v,h2,h3⟩:=zz0 x.o.op tm (mask M hp) _ h1
     obtain ⟨rfl,h4⟩:=znf h2
     obtain ⟨h5,h6⟩:=z1j h4
     refine ⟨h5,fun y hy M' hM' hl=>?_⟩
     rcases List.mem_cons.1 hy with rfl|hy
     ·rw [hM] at hM';cases hM';exact h3 _ rfl
     ·exact h6 y hy M' hM' hl
    ·rename_i e
     obtain ⟨h5,h6⟩:=z1j h
     refine ⟨h5,fun y hy M' hM' hl=>?_⟩
     rcases List.mem_cons.1 hy with rfl|hy
     ·rw [zax.2 hl] at e;cases e
     ·exact h6 y hy M' hM' hl
   ·rename_i hk
    obtain ⟨h5,h6⟩:=z1j h
    refine ⟨h5,fun y hy M' hM' hl=>?_⟩
    rcases List.mem_cons.1 hy with rfl|hy
    ·exact absurd hM' (hk M')
    ·exact h6 y hy M' hM' hl
theorem zd7 {b:Nat} {y:Late}: ∀{late:List Late},y∈addM b late→ ∃x∈late,y.i=x.i∧y.o=x.o∧y.v=x.v∧
    ((∃M,x.k= .read M∧y.k= .read (b ::M))∨((∀M,x.k≠ .read M)∧y.k=x.k))
  | [],h=>by simp [addM] at h
  |x ::xs,h=>by
   simp only [addM,List.mem_cons] at h
   rcases h with h|h
   ·refine ⟨x,by simp,?_⟩
    split at h
    ·rename_i M hM;subst h;exact ⟨rfl,rfl,rfl,.inl ⟨M,hM,rfl⟩⟩
    ·rename_i hM;subst h;exact ⟨rfl,rfl,rfl,.inr ⟨hM,rfl⟩⟩
   ·obtain ⟨z,h1,h2⟩:=zd7 h
    exact ⟨z,by simp [h1],h2⟩
theorem zfc {b:Nat}: ∀{late:List Late},addM b late=late.map fun x=>match x.k with| .read M=>⟨x.i,x.o,x.v,.read (b ::M)⟩|_=>x
  | []=>rfl
  |⟨i,o,v,kx⟩ ::xs=>by cases kx<;>simp [addM,zfc]
theorem Along.addM {b:Nat} {late:List Late} {pre:List PStep} (h:Along late pre):Along (addM b late) pre:=by
  induction h with
  |nil=>exact .nil
  |skip _ ih=>exact .skip ih
  |take he _ ih=>
   refine .take ?_ ih
   rw [←he]
   split<;>rfl
theorem zwe {o:Oper} {n:Nat} {tm:List (Nat×SV)} {yes no:Prop} (h:zll ops.toList o tm yes no):
    (zig Γ ops n o tm∧yes)∨((∀ρ a,TmRel Γ.nt ρ n tm a→Region.wanted o (yielded ops a.tmps)=false)∧no):=by
  unfold zll at h
  split at h
  ·rename_i hg
   exact .inl ⟨fun ρ a _=>by simp [Region.wanted,hg],h⟩
  ·rename_i j want hg
   obtain ⟨g,hj,h⟩:=zdo h
   split at h
   ·rename_i d hd
    obtain ⟨v,hv,h⟩:=yd h
    split at h
    ·rename_i t
     obtain ⟨h1,h2⟩:=z8 h
     have key: ∀(ρ:Nat→Nat) a,TmRel Γ.nt ρ n tm a→Region.wanted o (yielded ops a.tmps)=(t==want):=fun ρ a ht=>by
       have hval:=(ht.val d _ hv).2
       have hj':ops[j]?=some g:=by rw [←hj];simp
       simp only [Region.wanted,hg,yielded,hj',Option.bind_some,hd,hval,SV.den]
       cases t<;>cases want<;>rfl
     cases e:(t==want) with
     |true=>exact .inl ⟨fun ρ a ht=>by rw [key ρ a ht,e],h1 e⟩
     |false=>exact .inr ⟨fun ρ a ht=>by rw [key ρ a ht,e],h2 e⟩
    ·refine .inr ⟨fun ρ a ht=>?_,h⟩
     have hval:=(ht.val d _ hv).2
     have hj':ops[j]?=some g:=by rw [←hj];simp
     simp only [Region.wanted,hg,yielded,hj',Option.bind_some,hd,hval,SV.den]
     cases want<;>rfl
    ·exact h.elim
   ·exact h.elim
end
end Go.Sym

namespace Go.Sym
section
variable {P:Program} {Γ:Ctx} {ops:Array Oper} {Q:Exit→Act→World→Prop} {K:St→Prop} {ρ0:Nat→Nat} {hp0:List Blk} {w0:World}
def xg (listed:Array Bool) (late:List Late):List Late:=(late.filter fun x=>!listed.getD x.i false).reverse
def zaf:List Late→List Nat
  | []=> []
  |x ::xs=>match x.k with
   | .maker b=>b ::zaf xs
   |_=>zaf xs
theorem y0 {b:Nat}: ∀{xs:List Late},b∈zaf xs↔ ∃x∈xs,x.k= .maker b
  | []=>by simp [zaf]
  |⟨i,o,v,kx⟩ ::xs=>by cases kx<;>simp [zaf,y0,eq_comm]
theorem xk {listed:Array Bool} {late:List Late} {x:Late}:x∈xg listed late↔x∈late∧listed.getD x.i false=false:=by
  simp [xg]
theorem Step.sub {ρ:Nat→Nat} {hp hp':List Blk} {w:World} (h:Step ρ0 hp0 w0 ρ hp w) (hl:hp'.length=hp.length) (hs: ∀(k:Nat) el ps,hp'[k]?=some (Blk.mk el ps)→hp[k]?=some (.mk el ps)):Step ρ0 hp0 w0 ρ hp' w:=
  ⟨h.rel.sub fun k el ps hk=>⟨hs k el ps hk,by rw [hl];exact (h.rel.mem k el ps (hs k el ps hk)).1⟩,h.same,by rw [hl];exact h.le,h.ext,fun b ⟨k,el,ps,hk,he⟩=>h.foot b ⟨k,el,ps,hs k el ps hk,he⟩⟩
structure Inv (P:Program) (Γ:Ctx) (ops:Array Oper) (K:St→Prop) (ρ0:Nat→Nat) (hp0:List Blk) (w0:World) (listed:Array Bool) (a:Act) (w:World) (pre ss:List PStep) (late:List Late)
    (tm:List (Nat×SV)) (hp:List Blk) (ρ:Nat→Nat) (tmR:List (Nat×SV)):Prop where
  size:listed.size=ops.size
  down: ∀i o,listed.getD i false=true→ops[i]?=some o→ ∀e∈x5 o,listed.getD e false=true
  real: ∀i,listed.getD i false=true→ ∃p∈pre,p.i=i
  virt: ∀p∈pre,listed.getD p.i false=true∨ ∃x∈late,x.i=p.i
  get: ∀x∈late,ops[x.i]?=some x.o
  along:Along late pre
  nodup:late.Pairwise fun x y=>x.i≠y.i
  pairs:late.Pairwise fun y x=>Before ops x.i y.i∨x.o.apart ops y.o=true
  rkind: ∀x∈late,∀M,x.k= .read M→zbx Γ x.o.op= .read
  rmask: ∀x∈late,∀M,x.k= .read M→ ∀z∈late,∀b,z.k= .maker b→Before ops z.i x.i∨b∈M
  mblk: ∀z∈late,∀b,z.k= .maker b→hp0.length≤b∧b<hp.length
  mone: ∀y∈late,∀z∈late,∀b,y.k= .maker b→z.k= .maker b→y.i=z.i
  avoid: ∀y∈xg listed late,∀z∈xg listed late,∀b,z.k= .maker b→y.i≠z.i→Before ops z.i y.i∨
    (y.v.ok (· ≠b)∧ ∀c el ps,y.k= .maker c→hp[c]?=some (.mk el ps)→okL (· ≠b) ps)
  tmr:TmRel Γ.nt ρ hp.length tmR a
  chain:zas P Γ ops hp tmR (xg listed late) tm
  step:Step ρ0 hp0 w0 ρ (mask (zaf (xg listed late)) hp) w
  hpok: ∀(k:Nat) el ps,hp[k]?=some (Blk.mk el ps)→okL (· <hp.length) ps
  a1: ∀t v,y8 tmR t=some v→v.ok (· ∉zaf (xg listed late))
  a2: ∀(k:Nat) el ps,k∉zaf (xg listed late)→hp[k]?=some (Blk.mk el ps)→okL (· ∉zaf (xg listed late)) ps
  nsel: ∀(j:Nat) (o:Oper) cs b,ops[j]?=some o→o.op≠ .select cs b
  plan: ∃T,zga ops T∧ze8 ops Γ pre ss T=true
  vc:zfg Γ ops.toList ss late tm hp K
variable {listed:Array Bool} {a:Act} {w:World} {pre ss:List PStep} {s:PStep} {late:List Late} {tm:List (Nat×SV)} {hp:List Blk} {ρ:Nat→Nat} {tmR:List (Nat×SV)}
theorem zja: ∀{xs:List Late} {tm tm':List (Nat×SV)},zas P Γ ops hp tm xs tm'→zgt hp.length tm→zgt hp.length tm'∧ ∀x∈xs,x.v.ok (· <hp.length)
  | [],_,_,h,hk=>⟨fun t v hv=>hk t v (by rw [h];exact hv),by simp⟩
  |x ::xs,_,_,⟨_,h2,_,h4⟩,hk=>by
   obtain ⟨g1,g2⟩:=zja h4 (hk.put h2)
   exact ⟨g1,fun y hy=>by rcases List.mem_cons.1 hy with rfl|hy;exact h2;exact g2 y hy⟩
theorem zrh {x:Late} (h:listed.getD x.i false=false):xg listed (x ::late)=xg listed late++ [x]:=by
  unfold xg
  rw [List.filter_cons_of_pos (by rw [h];rfl),List.reverse_cons]
theorem Inv.absorb (I:Inv P Γ ops K ρ0 hp0 w0 listed a w pre (s ::ss) late tm hp ρ tmR) {o:Oper} {T':Table} (S:StepOK Γ ops pre s ss o) (hT:zga ops T') (hpl:ze8 ops Γ (s ::pre) ss T'=true)
    {v:SV} {k:LateK} (hk: ∀b,k≠ .maker b) (hkr: ∀M,k= .read M→zbx Γ o.op= .read∧M=za5 s.loose late) (hf:zbb P Γ ops hp ⟨s.i,o,v,k⟩ tm) (hv:v.ok (· <hp.length)) (hav:v.ok (· ∉za5 s.loose late))
    (hd: ∀d,o.dst=some d→d<Γ.nt) (hvc:zfg Γ ops.toList ss (⟨s.i,o,v,k⟩ ::late) (zbn tm o.dst v) hp K):
    Inv P Γ ops K ρ0 hp0 w0 listed a w (s ::pre) ss (⟨s.i,o,v,k⟩ ::late) (zbn tm o.dst v) hp ρ tmR:=by
  have hun:listed.getD s.i false=false:=by
    cases h:listed.getD s.i false with
    |false=>rfl
    |true=>obtain ⟨p,hp,he⟩:=I.real _ h;exact absurd he (S.new p hp)
  have hne: ∀x∈late,x.i≠s.i:=fun x hx=>by obtain ⟨p,h1,h2⟩:=I.along.mem x hx;rw [←h2];exact S.new p h1
  have hlo: ∀x∈late,(x.i∈s.loose∧x.o.apart ops o=true)∨(x.i∉s.loose∧Before ops x.i s.i):=fun x hx=>by
    obtain ⟨p,h1,h2⟩:=I.along.mem x hx
    rcases S.pairs p h1 with ⟨g1,y,g2,g3⟩|⟨g1,g2⟩
    ·rw [h2] at g1 g2
     rw [I.get x hx] at g2
     cases g2
     exact .inl ⟨g1,g3⟩
    ·rw [h2] at g1 g2;exact .inr ⟨g1,g2⟩
  have hpe:xg listed (⟨s.i,o,v,k⟩ ::late)=xg listed late++ [⟨s.i,o,v,k⟩]:=zrh hun
  have hpb: ∀b,b∈zaf (xg listed (⟨s.i,o,v,k⟩ ::late))↔b∈zaf (xg listed late):=fun b=>by
    rw [hpe,y0,y0]
    constructor
    ·rintro ⟨x,hx,hxk⟩
     rcases List.mem_append.1 hx with hx|hx
     ·exact ⟨x,hx,hxk⟩
     ·simp at hx;subst hx;exact absurd hxk (hk b)
    ·rintro ⟨x,hx,hxk⟩;exact ⟨x,by simp [hx],hxk⟩
  refine {I with
    real:=fun i h=>by obtain ⟨p,h1,h2⟩:=I.real i h;exact ⟨p,by simp [h1],h2⟩
    virt:=fun p hp=>?_
    get:=fun x hx=>by rcases List.mem_cons.1 hx with rfl|hx;exact S.get;exact I.get x hx
    along:= .take rfl I.along
    nodup:=List.pairwise_cons.2 ⟨fun x hx=>(hne x hx).symm,I.nodup⟩
    pairs:=List.pairwise_cons.2 ⟨fun x hx=>(hlo x hx).elim (fun h=> .inr h.2) (fun h=> .inl h.2),I.pairs⟩
    rkind:=fun x hx M hM=>by rcases List.mem_cons.1 hx with rfl|hx;exact (hkr M hM).1;exact I.rkind x hx M hM
    rmask:=fun x hx M hM z hz b hb=>?_
    mblk:=fun z hz b hb=>by rcases List.mem_cons.1 hz with rfl|hz;exact absurd hb (hk b);exact I.mblk z hz b hb
    mone:=fun y hy z hz b h1 h2=>?_
    avoid:=fun y hy z hz b hb hyz=>?_
    chain:=by rw [hpe];exact I.chain.snoc hf hv hd
    step:=I.step.sub (by simp [yh]) fun c el ps hc=>by rw [xc] at hc ⊢;exact ⟨fun h=>hc.1 ((hpb c).2 h),hc.2⟩
    a1:=fun t u hu=>SV.ok_mono (fun x hx h=>hx ((hpb x).1 h)) u (I.a1 t u hu)
    a2:=fun c el ps hc hcc=>yz (fun x hx h=>hx ((hpb x).1 h)) _ (I.a2 c el ps (fun h=>hc ((hpb c).2 h)) hcc)
    plan:=⟨T',hT,hpl⟩
    vc:=hvc}
  ·rcases List.mem_cons.1 hp with rfl|hp
   ·exact .inr ⟨_,List.mem_cons_self,rfl⟩
   ·rcases I.virt p hp with h|⟨x,h1,h2⟩
    ·exact .inl h
    ·exact .inr ⟨x,by simp [h1],h2⟩
  ·rcases List.mem_cons.1 hz with rfl|hz
   ·exact absurd hb (hk b)
   ·rcases List.mem_cons.1 hx with rfl|hx
    ·obtain ⟨_,rfl⟩:=hkr M hM
     rcases hlo z hz with ⟨g1,_⟩|⟨_,g2⟩
     ·exact .inr (zbk.2 ⟨z,hz,hb,g1⟩)
     ·exact .inl g2
    ·exact I.rmask x hx M hM z hz b hb
  ·rcases List.mem_cons.1 hy with rfl|hy
   ·exact absurd h1 (hk b)
   ·rcases List.mem_cons.1 hz with rfl|hz
    ·exact absurd h2 (hk b)
    ·exact I.mone y hy z hz b h1 h2
  ·rw [hpe] at hy hz
   rcases List.mem_append.1 hz with hz|hz
   ·rcases List.mem_append.1 hy with hy|hy
    ·exact I.avoid y hy z hz b hb hyz
    ·simp at hy;subst hy
     have hzl:=(xk.1 hz).1
     rcases hlo z hzl with ⟨g1,_⟩|⟨_,g2⟩
     ·refine .inr ⟨SV.ok_mono (fun x hx e=>hx (by rw [e];exact zbk.2 ⟨z,hzl,hb,g1⟩)) v hav,fun c el ps hc=>absurd hc (hk c)⟩
     ·exact .inl g2
   ·simp at hz;subst hz;exact absurd hb (hk b)
theorem Inv.absorbM (I:Inv P Γ ops K ρ0 hp0 w0 listed a w pre (s ::ss) late tm hp ρ tmR) {o:Oper} {T':Table} (S:StepOK Γ ops pre s ss o) (hT:zga ops T') (hpl:ze8 ops Γ (s ::pre) ss T'=true)
    {v:SV} {el:TypeId} {ps:List SV} (hw:zig Γ ops hp.length o tm) (hv:v.ok (· =hp.length)) (hps:okL (· <hp.length) ps)
    (hrun: ∀ρ a,TmRel Γ.nt ρ hp.length tm a→ ∀(ρ1:Nat→Nat) w,ρ1 hp.length=w.heap.size→(execOp a.eval o).run P w= .ok (.value (v.den ρ1)) (w.alloc (.cells (zw ρ ps).toArray el)))
    (hav:okL (· ∉za5 s.loose late) ps)
    (hd: ∀d,o.dst=some d→d<Γ.nt) (hvc:zfg Γ ops.toList ss (⟨s.i,o,v,.maker hp.length⟩ ::addM hp.length late) (zbn tm o.dst v) (hp++ [.mk el ps]) K):
    Inv P Γ ops K ρ0 hp0 w0 listed a w (s ::pre) ss (⟨s.i,o,v,.maker hp.length⟩ ::addM hp.length late) (zbn tm o.dst v) (hp++ [.mk el ps]) ρ tmR:=by
  have hun:listed.getD s.i false=false:=by
    cases h:listed.getD s.i false with
    |false=>rfl
    |true=>obtain ⟨p,hp,he⟩:=I.real _ h;exact absurd he (S.new p hp)
  have hne: ∀x∈late,x.i≠s.i:=fun x hx=>by obtain ⟨p,h1,h2⟩:=I.along.mem x hx;rw [←h2];exact S.new p h1
  have hlo: ∀x∈late,(x.i∈s.loose∧x.o.apart ops o=true)∨(x.i∉s.loose∧Before ops x.i s.i):=fun x hx=>by
    obtain ⟨p,h1,h2⟩:=I.along.mem x hx
    rcases S.pairs p h1 with ⟨g1,y,g2,g3⟩|⟨g1,g2⟩
    ·rw [h2] at g1 g2
     rw [I.get x hx] at g2
     cases g2
     exact .inl ⟨g1,g3⟩
    ·rw [h2] at g1 g2;exact .inr ⟨g1,g2⟩
  have hfl: ∀l:List Late,(addM hp.length l).filter (fun x=>!listed.getD x.i false)=addM hp.length (l.filter fun x=>!listed.getD x.i false):=fun l=>by
    induction l with
    |nil=>rfl
    |cons x xs ih=>
     obtain ⟨i,o,v,kx⟩:=x
     cases kx<;>simp only [addM,List.filter_cons,ih]<;>split<;>rfl
  have hpa:xg listed (addM hp.length late)=addM hp.length (xg listed late):=by
    unfold xg
    rw [hfl,zfc,zfc,List.map_reverse]
  have hpe:xg listed (⟨s.i,o,v,.maker hp.length⟩ ::addM hp.length late)=addM hp.length (xg listed late)++ [⟨s.i,o,v,.maker hp.length⟩]:=by
    rw [zrh hun,hpa]
  have hmk: ∀{y:Late} {l:List Late} {b:Nat},y∈addM hp.length l→y.k= .maker b→ ∃x∈l,x.k= .maker b∧y.i=x.i∧y.v=x.v∧y.o=x.o:=fun hy hb=>by
    obtain ⟨x,h1,h2,h3,h4,h5⟩:=zd7 hy
    rcases h5 with ⟨M,_,h6⟩|⟨_,h6⟩
    ·rw [h6] at hb;cases hb
    ·exact ⟨x,h1,by rw [←h6,hb],h2,h4,h3⟩
  have hkm: ∀{x:Late} {l:List Late} {b:Nat},x∈l→x.k= .maker b→x∈addM hp.length l:=fun {x l b} hx hb=>by
    induction l with
    |nil=>cases hx
    |cons y ys ih=>
     simp only [addM,List.mem_cons]
     rcases List.mem_cons.1 hx with rfl|hx
     ·left;rw [hb]
     ·right;exact ih hx
  have hpb: ∀b,b∈zaf (xg listed (⟨s.i,o,v,.maker hp.length⟩ ::addM hp.length late))↔b∈zaf (xg listed late)∨b=hp.length:=fun b=>by
    rw [hpe,y0,y0]
    constructor
    ·rintro ⟨x,hx,hxk⟩
     rcases List.mem_append.1 hx with hx|hx
     ·obtain ⟨y,h1,h2,_⟩:=hmk hx hxk;exact .inl ⟨y,h1,h2⟩
     ·simp at hx;subst hx;cases hxk;exact .inr rfl
    ·rintro (⟨x,hx,hxk⟩|rfl)
     ·exact ⟨x,by simp [hkm hx hxk],hxk⟩
     ·exact ⟨_,List.mem_append_right _ (List.mem_singleton.2 rfl),rfl⟩
  have hpl': ∀b∈zaf (xg listed late),b<hp.length:=fun b hb=>by
    obtain ⟨x,h1,h2⟩:=y0.1 hb
    exact (I.mblk x (xk.1 h1).1 b h2).2
  have hlen:(hp++ [Blk.mk el ps]).length=hp.length+1:=by simp
  have hle:hp.length≤(hp++ [Blk.mk el ps]).length:=by simp
  have old: ∀(k:Nat) el' qs,(hp++ [Blk.mk el ps])[k]?=some (Blk.mk el' qs)→k<hp.length∧hp[k]?=some (.mk el' qs)∨k=hp.length∧el'=el∧qs=ps:=fun k el' qs hk=>by
    rcases Nat.lt_trichotomy k hp.length with hl|rfl|hl
    ·rw [List.getElem?_append_left hl] at hk;exact .inl ⟨hl,hk⟩
    ·simp at hk;exact .inr ⟨rfl,hk.1.symm,hk.2.symm⟩
    ·rw [List.getElem?_eq_none (by simp;omega)] at hk;cases hk
  obtain ⟨htm,hxs⟩:=zja I.chain I.tmr.okay
  have hin: ∀{y:Late},y∈addM hp.length late→ ∃x∈late,y.i=x.i∧y.o=x.o:=fun hy=>by obtain ⟨x,h1,h2,h3,_⟩:=zd7 hy;exact ⟨x,h1,h2,h3⟩
  refine {I with
    real:=fun i h=>by obtain ⟨p,h1,h2⟩:=I.real i h;exact ⟨p,by simp [h1],h2⟩
    virt:=fun p hp=>?_
    get:=fun x hx=>by
      rcases List.mem_cons.1 hx with rfl|hx
      ·exact S.get
      ·obtain ⟨y,h1,h2,h3⟩:=hin hx;rw [h2,h3];exact I.get y h1
    along:= .take rfl I.along.addM
    nodup:=List.pairwise_cons.2 ⟨fun x hx=>by obtain ⟨y,h1,h2,_⟩:=hin hx;rw [h2];exact (hne y h1).symm,?_⟩
    pairs:=List.pairwise_cons.2 ⟨fun x hx=>by obtain ⟨y,h1,h2,h3⟩:=hin hx;rw [h2,h3];exact (hlo y h1).elim (fun h=> .inr h.2) (fun h=> .inl h.2),?_⟩
    rkind:=fun x hx M hM=>?_
    rmask:=fun x hx M hM z hz b hb=>?_
    mblk:=fun z hz b hb=>?_
    mone:=fun y hy z hz b h1 h2=>?_
    avoid:=fun y hy z hz b hb hyz=>?_
    tmr:=I.tmr.down' hle
    chain:=by
      rw [hpe]
      exact (I.chain.grow I.hpok I.tmr.okay fun x hx c hc=>(I.mblk x (xk.1 hx).1 c hc).2).snoc ⟨fun ρ a ht=>hw ρ a (ht.down htm),el,ps,by simp,yz (fun x hx=>Nat.lt_of_lt_of_le hx hle) _ hps,hv,yz (fun x hx e=>by omega) _ hps,fun ρ a ht=>hrun ρ a (ht.down htm)⟩
        (SV.ok_mono (fun x hx=>by rw [hx,hlen];exact Nat.lt_succ_self _) v hv) hd
    step:=I.step.grow.sub (by simp [yh]) fun c el' qs hc=>?_
    hpok:=fun k el' qs hk=>?_
    a1:=fun t u hu=>SV.ok_and (fun x (h1:x∉zaf (xg listed late)) (h2:x<hp.length) h=>(hpb x |>.1 h).elim h1 (fun e=>by omega)) u (I.a1 t u hu) (I.tmr.okay t u hu)
    a2:=fun c el' qs hc hcc=>?_
    plan:=⟨T',hT,hpl⟩
    vc:=hvc}
  ·rcases List.mem_cons.1 hp with rfl|hp
   ·exact .inr ⟨_,List.mem_cons_self,rfl⟩
   ·rcases I.virt p hp with h|⟨x,h1,h2⟩
    ·exact .inl h
    ·right
     rw [zfc]
     refine ⟨_,List.mem_cons_of_mem _ (List.mem_map.2 ⟨x,h1,rfl⟩),?_⟩
     rw [←h2]
     split<;>rfl
  ·rw [zfc,List.pairwise_map]
   refine I.nodup.imp fun {x y} h=>?_
   obtain ⟨i,o,v,kx⟩:=x
   obtain ⟨i',o',v',kx'⟩:=y
   cases kx<;>cases kx'<;>exact h
  ·rw [zfc,List.pairwise_map]
   refine I.pairs.imp fun {x y} h=>?_
   obtain ⟨i,o,v,kx⟩:=x
   obtain ⟨i',o',v',kx'⟩:=y
   cases kx<;>cases kx'<;>exact h
  ·rcases List.mem_cons.1 hx with rfl|hx
   ·cases hM
   ·obtain ⟨y,h1,h2,h3,h4,h5⟩:=zd7 hx
    rcases h5 with ⟨M',h6,_⟩|⟨h6,h7⟩
    ·rw [h3];exact I.rkind y h1 M' h6
    ·rw [h7] at hM;exact absurd hM (h6 M)
  ·rcases List.mem_cons.1 hx with rfl|hx
   ·cases hM
   ·obtain ⟨y,h1,h2,h3,h4,h5⟩:=zd7 hx
    rcases h5 with ⟨M',h6,h7⟩|⟨h6,h7⟩
    ·rw [h7] at hM
     cases hM
     rcases List.mem_cons.1 hz with rfl|hz
     ·cases hb;exact .inr (by simp)
     ·obtain ⟨z',g1,g2,g3,_⟩:=hmk hz hb
      rw [g3,h2]
      rcases I.rmask y h1 M' h6 z' g1 b g2 with h|h
      ·exact .inl h
      ·exact .inr (by simp [h])
    ·rw [h7] at hM;exact absurd hM (h6 M)
  ·rw [hlen]
   rcases List.mem_cons.1 hz with rfl|hz
   ·cases hb;exact ⟨by have:=I.step.le;rwa [yh] at this,Nat.lt_succ_self _⟩
   ·obtain ⟨z',g1,g2,_⟩:=hmk hz hb
    have:=I.mblk z' g1 b g2
    exact ⟨this.1,by omega⟩
  ·rcases List.mem_cons.1 hy with rfl|hy
   ·cases h1
    rcases List.mem_cons.1 hz with rfl|hz
    ·rfl
    ·obtain ⟨z',g1,g2,_⟩:=hmk hz h2
     have:=(I.mblk z' g1 _ g2).2;omega
   ·obtain ⟨y',f1,f2,f3,_⟩:=hmk hy h1
    rcases List.mem_cons.1 hz with rfl|hz
    ·cases h2
     have:=(I.mblk y' f1 _ f2).2;omega
    ·obtain ⟨z',g1,g2,g3,_⟩:=hmk hz h2
     rw [f3,g3];exact I.mone y' f1 z' g1 b f2 g2
  ·rw [hpe] at hy hz
   rcases List.mem_append.1 hz with hz|hz
   ·obtain ⟨z',g1,g2,g3,_⟩:=hmk hz hb
    have hzl:=(xk.1 g1).1
    have hbl:=(I.mblk z' hzl b g2).2
    rcases List.mem_append.1 hy with hy|hy
    ·obtain ⟨y',f1,f2,f3,f4,f5⟩:=zd7 hy
     rw [f2,g3] at hyz ⊢
     rcases I.avoid y' f1 z' g1 b g2 hyz with h|⟨h,h'⟩
     ·exact .inl h
     ·refine .inr ⟨by rw [f4];exact h,fun c el' qs hc hcc=>?_⟩
      obtain ⟨y2,e1,e2,_⟩:=hmk hy hc
      have hcl:=(I.mblk y2 (xk.1 e1).1 c e2).2
      rw [List.getElem?_append_left hcl] at hcc
      refine h' c el' qs ?_ hcc
      rcases f5 with ⟨M,_,h6⟩|⟨_,h6⟩
      ·rw [h6] at hc;cases hc
      ·rw [←h6,hc]
    ·simp at hy;subst hy
     rw [g3]
     rcases hlo z' hzl with ⟨q1,_⟩|⟨_,q2⟩
     ·refine .inr ⟨SV.ok_mono (fun x hx e=>by omega) v hv,fun c el' qs hc hcc=>?_⟩
      cases hc
      simp at hcc
      obtain ⟨_,rfl⟩:=hcc
      exact yz (fun x hx e=>hx (by rw [e];exact zbk.2 ⟨z',hzl,g2,q1⟩)) _ hav
     ·exact .inl q2
   ·simp at hz;subst hz
    cases hb
    rcases List.mem_append.1 hy with hy|hy
    ·obtain ⟨y',f1,f2,f3,f4,f5⟩:=zd7 hy
     refine .inr ⟨?_,fun c el' qs hc hcc=>?_⟩
     ·rw [f4];exact SV.ok_mono (fun x hx e=>by omega) _ (hxs y' f1)
     ·obtain ⟨y2,e1,e2,_⟩:=hmk hy hc
      have hcl:=(I.mblk y2 (xk.1 e1).1 c e2).2
      rw [List.getElem?_append_left hcl] at hcc
      exact yz (fun x hx e=>by omega) _ (I.hpok c el' qs hcc)
    ·simp at hy;subst hy;exact absurd rfl hyz
  ·rw [xc] at hc
   obtain ⟨h1,h2⟩:=hc
   have hcn:c∉zaf (xg listed late)∧c≠hp.length:=by
     have:=fun h=>h1 ((hpb c).2 h)
     exact ⟨fun h=>this (.inl h),fun h=>this (.inr h)⟩
   rcases old c el' qs h2 with ⟨hl,h3⟩|⟨h3,_⟩
   ·rw [List.getElem?_append_left (by rwa [yh])]
    exact xc.2 ⟨hcn.1,h3⟩
   ·exact absurd h3 hcn.2
  ·rcases old k el' qs hk with ⟨hl,h3⟩|⟨_,_,rfl⟩
   ·exact yz (fun x hx=>Nat.lt_of_lt_of_le hx hle) _ (I.hpok k el' qs h3)
   ·exact yz (fun x hx=>Nat.lt_of_lt_of_le hx hle) _ hps
  ·have hcn:c∉zaf (xg listed late)∧c≠hp.length:=by
     have:=fun h=>hc ((hpb c).2 h)
     exact ⟨fun h=>this (.inl h),fun h=>this (.inr h)⟩
   rcases old c el' qs hcc with ⟨hl,h3⟩|⟨h3,_⟩
   ·exact ydd (fun x (g1:x∉zaf (xg listed late)) (g2:x<hp.length) h=>(hpb x |>.1 h).elim g1 (fun e=>by omega)) (I.a2 c el' qs hcn.1 h3) (I.hpok c el' qs h3)
   ·exact absurd h3 hcn.2
end
end Go.Sym
