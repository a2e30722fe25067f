/-
  Contracts of functions of the program, each said of symbolic values, and plain laws; no condition beyond each statement's own.
-/
import Derived.Test.YtmmpgjcpielefaaGreatGLStreamTwins9
set_option linter.unusedSimpArgs false
set_option linter.unusedVariables false
namespace Go.Sym
section
variable {P:Program} {Γ:Ctx} {ρ:Nat→Nat} {hp:List Blk} {w:World} {tm:List (Nat×SV)} {a:Act} {nb:Nat}
def xi (P:Program) (n:Nat) (o:Oper) (a:Act) (ρ:Nat→Nat) (k:SV→Prop):Prop:=
  ∃v,k v∧v.ok (· <n)∧ ∀w,(execOp a.eval o).run P w= .ok (.value (v.den ρ)) w
def zgr (P:Program) (E:World→Prop) (n:Nat) (o:Oper) (a:Act) (ρ:Nat→Nat) (w:World) (k:SV→Prop):Prop:=
  ∃v,k v∧v.ok (· <n)∧(E w→(execOp a.eval o).run P w= .ok (.value (v.den ρ)) w)
def ziv (P:Program) (n m:Nat) (o:Oper) (a:Act) (ρ:Nat→Nat) (k:SV→Blk→Prop):Prop:=
  ∃v el ps,k v (.mk el ps)∧v.ok (· =m)∧okL (· <n) ps∧
   ∀(ρ1:Nat→Nat) w,ρ1 m=w.heap.size→(execOp a.eval o).run P w= .ok (.value (v.den ρ1)) (w.alloc (.cells (zq ρ ps).toArray el))
theorem xi.v {o:Oper} {k:SV→Prop} {v:SV} (hs: ∀w,(execOp a.eval o).run P w= .ok (.value (v.den ρ)) w) (hv:v.ok (· <nb)) (hk:k v):xi P nb o a ρ k:=⟨v,hk,hv,hs⟩
theorem zgr.v {E:World→Prop} {o:Oper} {k:SV→Prop} {v:SV} (hs:(execOp a.eval o).run P w= .ok (.value (v.den ρ)) w) (hv:v.ok (· <nb)) (hk:k v):zgr P E nb o a ρ w k:=⟨v,hk,hv,fun _=>hs⟩
theorem zaw (A:Addr) (w:World):(Instr.sureAddr (.pointer (some A))).run P w= .ok A w:=rfl
theorem zq4 {xs:Array Operand} {vs:List SV} (h:xs.toList.map a.eval=y4 ρ vs):xs.map a.eval=(y4 ρ vs).toArray:=by
  apply Array.ext';simp [h]
theorem zk1: ∀{vs:List SV} {i:Nat} {v:SV},vs[i]?=some v→(y4 ρ vs)[i]?=some (v.den ρ)
  |x ::xs,0,v,h=>by simp at h;simp [y4,h]
  |x ::xs,i+1,v,h=>by simp at h;simpa [y4] using zk1 h
theorem zq9 {p:Nat→Prop}: ∀{vs:List SV} {i:Nat} {v:SV},okL p vs→vs[i]?=some v→v.ok p
  |x ::xs,0,v,ho,h=>by simp at h;rw [←h];exact ho.1
  |x ::xs,i+1,v,ho,h=>by simp at h;exact zq9 ho.2 h
theorem zsa (x y:List SV):y4 ρ (x++y)=y4 ρ x++y4 ρ y:=by
  induction x with
  |nil=>rfl
  |cons v vs ih=>simp [y4,ih]
variable (dst:Option Nat) (type:TypeId) (pos:String) (after:Array Edge) (guard:Option (Nat×Bool))
theorem zw1 (hΓ:CtxOK P Γ) (ht:TmRel Γ.nt ρ nb tm a) (x:Operand) {K:SV→Prop} (h:xh Γ (.move x) tm K):
    xi P nb ⟨dst,.move x,type,pos,after,guard⟩ a ρ K:=by
  unfold xh at h
  dsimp only at h
  have hh:=xv ht h;clear h;obtain ⟨v,h1,h2,h⟩:=hh
  exact .v (fun w=>by simp only [execOp,Sem.run_pure,h2]) h1 h
theorem zsy (hΓ:CtxOK P Γ) (ht:TmRel Γ.nt ρ nb tm a) (x:Operand) {K:SV→Prop} (h:xh Γ (.assign x) tm K):
    xi P nb ⟨dst,.assign x,type,pos,after,guard⟩ a ρ K:=by
  unfold xh at h
  dsimp only at h
  have hh:=xv ht h;clear h;obtain ⟨v,h1,h2,h⟩:=hh
  exact .v (fun w=>by simp only [execOp,Sem.run_pure,h2]) h1 h
theorem zw0 (hΓ:CtxOK P Γ) (ht:TmRel Γ.nt ρ nb tm a) (c x y:Operand) {K:SV→Prop} (h:xh Γ (.pick c x y) tm K):
    xi P nb ⟨dst,.pick c x y,type,pos,after,guard⟩ a ρ K:=by
  unfold xh at h
  dsimp only at h
  have hh:=xv ht h;clear h;obtain ⟨cv,cv0,c2,h⟩:=hh
  have hh:=xv ht h;clear h;obtain ⟨av,a1,a2,h⟩:=hh
  have hh:=xv ht h;clear h;obtain ⟨bv,b1,b2,h⟩:=hh
  split at h
  ·rename_i t
   have hc: ∀w,(asBool (a.eval c)).run P w= .ok t w:=fun w=>by rw [c2];rfl
   obtain ⟨h1,h2⟩:=zt h
   cases t with
   |true=>exact .v (v:=av) (fun w=>by simp only [execOp,Sem.run_bind,hc,Result.andThen_ok,Sem.run_pure,if_true,a2]) a1 (h1 rfl)
   |false=>exact .v (v:=bv) (fun w=>by simp only [execOp,Sem.run_bind,hc,Result.andThen_ok,Sem.run_pure,Bool.false_eq_true,if_false,b2]) b1 (h2 rfl)
  ·exact h.elim
theorem zux (hΓ:CtxOK P Γ) (ht:TmRel Γ.nt ρ nb tm a) (t:TypeId) (ps:Array (Nat×Operand)) {K:SV→Prop} (h:xh Γ (.build t ps) tm K):
    xi P nb ⟨dst,.build t ps,type,pos,after,guard⟩ a ρ K:=by
  unfold xh at h
  dsimp only at h
  have hh:=zor ht h;clear h;obtain ⟨given,g1,g2,h⟩:=hh
  have hh:=z17 (ρ:=ρ) hΓ g1 h;clear h;obtain ⟨v,h,hok,hrun⟩:=hh
  have e:(ps.map fun (i,x)=>(i,a.eval x))=(given.map fun g=>(g.1,g.2.den ρ)).toArray:=by
    apply Array.ext';simp only [Array.toList_map];exact g2
  refine .v ?_ hok h
  intro w
  simp only [execOp,Sem.run_bind]
  rw [e,hrun w];rfl
theorem znd (hΓ:CtxOK P Γ) (ht:TmRel Γ.nt ρ nb tm a) (x:Operand) {K:SV→Prop} (h:xh Γ (.nilCheck x) tm K):
    xi P nb ⟨dst,.nilCheck x,type,pos,after,guard⟩ a ρ K:=by
  unfold xh at h
  dsimp only at h
  have hh:=xv ht h;clear h;obtain ⟨v,h1,h2,h⟩:=hh
  split at h
  ·exact .v (fun w=>by simp only [execOp,h2,SV.den,Sem.run_pure]) h1 h
  ·exact .v (fun w=>by simp only [execOp,h2,SV.den,Sem.run_pure]) h1 h
  ·exact .v (fun w=>by simp only [execOp,h2,SV.den,Sem.run_pure]) h1 h
  ·exact h.elim
theorem zum (hΓ:CtxOK P Γ) (ht:TmRel Γ.nt ρ nb tm a) (op:BinOp) (t:TypeId) (x y:Operand) (t':TypeId) {K:SV→Prop} (h:xh Γ (.binOp op t x y t') tm K):
    xi P nb ⟨dst,.binOp op t x y t',type,pos,after,guard⟩ a ρ K:=by
  unfold xh at h
  dsimp only at h
  have hh:=xv ht h;clear h;obtain ⟨v,v1,v2,h⟩:=hh
  have hh:=xv ht h;clear h;obtain ⟨u,u1,u2,h⟩:=hh
  have hh:=z4q (ρ:=ρ) hΓ v1 u1 h;clear h;obtain ⟨r,h,hok,hrun⟩:=hh
  refine .v ?_ (hok _) h
  intro w
  have:=hrun x y w
  simp only [execOp,v2,u2]
  rw [Sem.run_bind,this];rfl
theorem zyh (hΓ:CtxOK P Γ) (ht:TmRel Γ.nt ρ nb tm a) (op:UnOp) (t:TypeId) (x:Operand) {K:SV→Prop} (h:xh Γ (.unOp op t x) tm K):
    xi P nb ⟨dst,.unOp op t x,type,pos,after,guard⟩ a ρ K:=by
  unfold xh at h
  dsimp only at h
  have hh:=xv ht h;clear h;obtain ⟨v,v1,v2,h⟩:=hh
  have hh:=z95 (P:=P) (ρ:=ρ) h;clear h;obtain ⟨r,h,hok,hrun⟩:=hh
  refine .v ?_ (hok _) h
  intro w
  simp only [execOp,v2,Sem.run_bind,hrun,Result.andThen_ok,Sem.run_pure]
theorem zm9 (ht:TmRel Γ.nt ρ nb tm a) (fn:Fn) (first caps:Array Operand) {K:SV→Prop} (h:xh Γ (.makeFunc fn first caps) tm K):
    xi P nb ⟨dst,.makeFunc fn first caps,type,pos,after,guard⟩ a ρ K:=by
  unfold xh at h
  dsimp only at h
  have hh:=zuv ht h;clear h;obtain ⟨vs,va,ve,h⟩:=hh
  have hc:=zq4 ve
  split at h
  ·rename_i f
   split at h
   ·rename_i hf
    have hf0:first= #[]:=by apply Array.ext';rw [hf]
    refine .v (v:= .func f vs) (fun w=>?_) va h
    simp only [execOp,hc,hf0,Instr.makeFunc,Sem.run_pure,Sem.run_bind,Result.andThen_ok,SV.den]
    simp
   ·exact h.elim
  ·exact h.elim
theorem zun (hΓ:CtxOK P Γ) (ht:TmRel Γ.nt ρ nb tm a) (t:TypeId) (x:Operand) (lo hi mx:Option Operand) {K:SV→Prop} (h:xh Γ (.slice t x lo hi mx) tm K):
    xi P nb ⟨dst,.slice t x lo hi mx,type,pos,after,guard⟩ a ρ K:=by
  unfold xh at h
  dsimp only at h
  have hh:=xv ht h;clear h;obtain ⟨v,v1,v2,h⟩:=hh
  have hh:=zje ht h;clear h;obtain ⟨l,h,hl⟩:=hh
  have hh:=zje ht h;clear h;obtain ⟨hh,h,hhh⟩:=hh
  have hh:=zje ht h;clear h;obtain ⟨m,h,hm⟩:=hh
  have hh:=z29 (ρ:=ρ) hΓ hl hhh hm v1 h;clear h;obtain ⟨r,h,hok,hrun⟩:=hh
  refine .v ?_ hok h
  intro w
  simp only [execOp,v2,Sem.run_bind,hrun,Result.andThen_ok,Sem.run_pure]
theorem ztp (hΓ:CtxOK P Γ) (ht:TmRel Γ.nt ρ nb tm a) (s:TypeId) (x:Operand) (f:Nat) {K:SV→Prop} (h:xh Γ (.field s x f) tm K):
    xi P nb ⟨dst,.field s x f,type,pos,after,guard⟩ a ρ K:=by
  unfold xh at h
  dsimp only at h
  have hh:=z6 h;clear h;obtain ⟨si,hsi,h⟩:=hh
  have hS:=(hΓ.ty s si hsi).2.2.1
  split at h
  ·rename_i fs hd
   rw [hd] at hS
   obtain ⟨flds,hu,hfs,_⟩:=hS
   have hh:=zch h;clear h;obtain ⟨ft,hft,h⟩:=hh
   have hh:=z6 h;clear h;obtain ⟨fi,hfi,h⟩:=hh
   have hF:=hΓ.ty _ fi hfi
   have hfld: ∃fd,flds[f]?=some fd∧ft=(fd.offset,fd.type):=by
     rw [←hfs,List.getElem?_map] at hft
     cases hq:flds.toList[f]? with
     |none=>rw [hq] at hft;simp at hft
     |some fd=>rw [hq] at hft;exact ⟨fd,by simpa using hq,(Option.some.inj hft).symm⟩
   obtain ⟨fd,hfd,rfl⟩:=hfld
   have hh:=xv ht h;clear h;obtain ⟨v,v1,v2,h⟩:=hh
   split at h
   ·rename_i hm
    have hh:=zei (p:=(· <nb)) ρ h;clear h;obtain ⟨ps,h,hc,_,hok⟩:=hh
    have hh:=zm2 (ρ:=ρ) (hok v1) h;clear h;obtain ⟨r,h,hro,hl⟩:=hh
    refine .v ?_ hro h
    intro w
    rw [hc] at hl
    simp only [execOp,v2,zca hm,Instr.field,Sem.run_bind,run_underlying hu,Result.andThen_ok,hfd,asAgg,Sem.run_pure,zgm hF hl]
   ·exact h.elim
  ·exact h.elim
theorem zm5 (hΓ:CtxOK P Γ) (ht:TmRel Γ.nt ρ nb tm a) (t:TypeId) (x i:Operand) {K:SV→Prop} (h:xh Γ (.indexAddr t x i) tm K):
    xi P nb ⟨dst,.indexAddr t x i,type,pos,after,guard⟩ a ρ K:=by
  unfold xh at h
  dsimp only at h
  have hh:=z6 h;clear h;obtain ⟨ti,hti,h⟩:=hh
  have hT:=(hΓ.ty t ti hti).2.2.1
  have hh:=xv ht h;clear h;obtain ⟨v,v1,v2,h⟩:=hh
  have hh:=xv ht h;clear h;obtain ⟨iv,iv0,i2,h⟩:=hh
  have hh:=zmr (ρ:=ρ) h;clear h;obtain ⟨ix,h,kd,hix⟩:=hh
  split at h
  ·rename_i n e hd
   rw [hd] at hT
   have hh:=z6 h;clear h;obtain ⟨ei,hei,h⟩:=hh
   have hE:=hΓ.ty e ei hei
   split at h
   ·rename_i k j b oo
    have hh:=zm h;clear h;obtain ⟨hb,h⟩:=hh
    refine .v ?_ (v:= .ptr k j b (yb oo ix ei.sz)) v1 h
    intro w
    have hc:0≤(ix:Int)∧(ix:Int)<(n:Int):=by omega
    simp only [execOp,v2,i2,hix,SV.den,Instr.indexAt,asIntOf,Sem.run_bind,Sem.run_pure,Result.andThen_ok,run_underlying hT,zaw]
    rw [if_pos hc]
    simp only [Sem.run_bind,yg hE,Result.andThen_ok,Sem.run_pure,zb4,zy,Int.toNat_natCast,Nat.add_assoc]
   ·exact h.elim
  ·rename_i e hd
   rw [hd] at hT
   have hh:=z6 h;clear h;obtain ⟨ei,hei,h⟩:=hh
   have hE:=hΓ.ty e ei hei
   split at h
   ·rename_i k j b oo n c
    have hh:=zm h;clear h;obtain ⟨hb,h⟩:=hh
    refine .v ?_ (v:= .ptr k j b (yb oo ix ei.sz)) v1 h
    intro w
    have hc:0≤(ix:Int)∧(ix:Int)<(n:Int):=by omega
    simp only [execOp,v2,i2,hix,SV.den,Instr.indexAt,asIntOf,Sem.run_bind,Sem.run_pure,Result.andThen_ok,run_underlying hT]
    rw [if_pos hc]
    simp only [Sem.run_bind,yg hE,Result.andThen_ok,Sem.run_pure,zb4,zy,Int.toNat_natCast,Nat.add_assoc]
   ·rename_i A n c
    have hh:=zm h;clear h;obtain ⟨hb,h⟩:=hh
    obtain ⟨A,rfl⟩: ∃A',A=some A':=by
      rcases v1 with v1|v1
      ·cases A with
       |none=>cases v1
       |some A=>exact ⟨A,rfl⟩
      ·omega
    refine .v ?_ (v:= .xptr (A.add (ix*ei.sz))) trivial h
    intro w
    have hc:0≤(ix:Int)∧(ix:Int)<(n:Int):=by omega
    simp only [execOp,v2,i2,hix,SV.den,Instr.indexAt,asIntOf,Sem.run_bind,Sem.run_pure,Result.andThen_ok,run_underlying hT]
    rw [if_pos hc]
    simp only [Sem.run_bind,yg hE,Result.andThen_ok,Sem.run_pure,Int.toNat_natCast]
   ·exact h.elim
  ·exact h.elim
theorem ztq (hΓ:CtxOK P Γ) (ht:TmRel Γ.nt ρ nb tm a) (t:TypeId) (x i:Operand) {K:SV→Prop} (h:xh Γ (.index t x i) tm K):
    xi P nb ⟨dst,.index t x i,type,pos,after,guard⟩ a ρ K:=by
  unfold xh at h
  dsimp only at h
  have hh:=z6 h;clear h;obtain ⟨ti,hti,h⟩:=hh
  have hT:=(hΓ.ty t ti hti).2.2.1
  have hh:=xv ht h;clear h;obtain ⟨v,v1,v2,h⟩:=hh
  have hh:=xv ht h;clear h;obtain ⟨iv,iv0,i2,h⟩:=hh
  have hh:=zmr (ρ:=ρ) h;clear h;obtain ⟨ix,h,kd,hix⟩:=hh
  split at h
  ·rename_i l
   split at h
   ·rename_i hd
    rw [hd] at hT
    obtain ⟨hb,h⟩:=zm h
    refine .v ?_ (v:= .u8 (l.getD ix 0)) trivial h
    intro w
    have hs:ix<(⟨l.toArray⟩:ByteArray).size:=by simpa [ByteArray.size] using hb
    have hget:(⟨l.toArray⟩:ByteArray)[ix]?=some (l.getD ix 0):=by
      rw [getElem?_pos (⟨l.toArray⟩:ByteArray) ix hs]
      simp only [ByteArray.getElem_eq_getElem_data,List.getElem_toArray,List.getD_eq_getElem?_getD,List.getElem?_eq_getElem hb,Option.getD_some]
    have h0:0≤(ix:Int):=by omega
    simp only [execOp,v2,i2,hix,SV.den,Instr.index,asIntOf,Sem.run_bind,Sem.run_pure,Result.andThen_ok,run_underlying hT,if_pos h0,Int.toNat_natCast,hget]
   ·exact h.elim
  ·split at h
   ·rename_i n e hd
    rw [hd] at hT
    have hh:=z6 h;clear h;obtain ⟨ei,hei,h⟩:=hh
    have hE:=hΓ.ty e ei hei
    split at h
    ·rename_i hm
     obtain ⟨hb,h⟩:=zm h
     have hh:=zix (ρ:=ρ) (p:=(· <nb)) (ps:= [v]) ⟨v1,trivial⟩ h;clear h;obtain ⟨r,h,hro,hl⟩:=hh
     refine .v ?_ hro h
     intro w
     have hc:0≤(ix:Int)∧(ix:Int)<(n:Int):=by omega
     have hcl:zq ρ [v]=v.cells ρ:=by simp [zq]
     rw [hcl] at hl
     have hoff:0+off [(ix,ei.sz)]=ix*ei.sz:=by simp [off,zbx]
     rw [hoff] at hl
     simp only [execOp,v2,i2,hix,zca hm,Instr.index,asIntOf,Sem.run_bind,Sem.run_pure,Result.andThen_ok,run_underlying hT]
     rw [if_pos hc]
     simp only [Sem.run_bind,yg hE,Result.andThen_ok,Int.toNat_natCast,zgm hE hl,Sem.run_pure]
    ·exact h.elim
   ·exact h.elim
theorem zqv (ht:TmRel Γ.nt ρ nb tm a) (x:Operand) (i:Nat) {K:SV→Prop} (h:xh Γ (.extract x i) tm K):
    xi P nb ⟨dst,.extract x i,type,pos,after,guard⟩ a ρ K:=by
  unfold xh at h
  dsimp only at h
  have hh:=xv ht h;clear h;obtain ⟨v,v1,v2,h⟩:=hh
  split at h
  ·rename_i vs
   have hh:=zch h;clear h;obtain ⟨u,hu,h⟩:=hh
   refine .v ?_ (zq9 v1 hu) h
   intro w
   have:=zk1 (ρ:=ρ) hu
   simp only [execOp,v2,SV.den,Instr.extract,List.getElem?_toArray,this,Sem.run_bind,Sem.run_pure,Result.andThen_ok]
  ·exact h.elim
theorem zxi (hΓ:CtxOK P Γ) (hr:HpRel ρ hp w) (ht:TmRel Γ.nt ρ hp.length tm a) (t:TypeId) (x:Operand) {K:SV→Prop} (h:zdr Γ (.load t x) tm hp K):
    zgr P Γ.E hp.length ⟨dst,.load t x,type,pos,after,guard⟩ a ρ w K:=by
  unfold zdr at h
  dsimp only at h
  have hh:=z6 h;clear h;obtain ⟨ti,hti,h⟩:=hh
  have hT:=hΓ.ty t ti hti
  have hh:=xv ht h;clear h;obtain ⟨v,v0,h2,h⟩:=hh
  split at h
  ·rename_i k j b oo
   have hh:=zbk h;clear h;obtain ⟨el,ps,hk,h⟩:=hh
   obtain ⟨hok,_⟩:=hr.mem k el ps hk
   have hh:=zix (ρ:=ρ) hok h;clear h;obtain ⟨u,h,hu,hl⟩:=hh
   refine .v ?_ hu h
   simp only [execOp,Instr.loadAt,h2,SV.den,Sem.run_bind,zaw,Result.andThen_ok,zen hT (fun i=>hr.cell hk i) hl,Sem.run_pure]
  ·rename_i A
   obtain ⟨u,hu,hk⟩:=z6h h
   obtain ⟨h5,h6⟩:=hΓ.ext A t u hu
   refine ⟨u,hk,SV.ok_mono (fun _ hf=>hf.elim) u h5,fun hE=>?_⟩
   simp only [execOp,Instr.loadAt,h2,SV.den,Sem.run_bind,zaw,Result.andThen_ok,h6 ρ w hE,Sem.run_pure]
  ·exact h.elim
theorem zk6 (hΓ:CtxOK P Γ) (hr:HpRel ρ hp w) (ht:TmRel Γ.nt ρ hp.length tm a) (s:TypeId) (x:Operand) (f:Nat) {K:SV→Prop} (h:zdr Γ (.fieldAddr s x f) tm hp K):
    zgr P Γ.E hp.length ⟨dst,.fieldAddr s x f,type,pos,after,guard⟩ a ρ w K:=by
  unfold zdr at h
  dsimp only at h
  have hh:=z6 h;clear h;obtain ⟨si,hsi,h⟩:=hh
  have hS:=(hΓ.ty s si hsi).2.2.1
  split at h
  ·rename_i fs hd
   rw [hd] at hS
   obtain ⟨flds,hu,hfs,_⟩:=hS
   have hh:=zch h;clear h;obtain ⟨ft,hft,h⟩:=hh
   have hh:=z6 h;clear h;obtain ⟨fi,hfi,h⟩:=hh
   have hF:=hΓ.ty _ fi hfi
   have hfld: ∃fd,flds[f]?=some fd∧ft=(fd.offset,fd.type):=by
     rw [←hfs,List.getElem?_map] at hft
     cases hq:flds.toList[f]? with
     |none=>rw [hq] at hft;simp at hft
     |some fd=>rw [hq] at hft;exact ⟨fd,by simpa using hq,(Option.some.inj hft).symm⟩
   obtain ⟨fd,hfd,rfl⟩:=hfld
   split at h
   ·exact h.elim
   ·rename_i m hm
    have hh:=xv ht h;clear h;obtain ⟨v,v1,v2,h⟩:=hh
    split at h
    ·rename_i k j b oo
     have key: ∀u:SV,u.den ρ= .pointer (some ⟨ρ k,b+off oo+fd.offset,none⟩)→(execOp a.eval ⟨dst,.fieldAddr s x f,type,pos,after,guard⟩).run P w= .ok (.value (u.den ρ)) w:=by
       intro u hu'
       have hne: ¬(fi.sz=0):=by rw [hm];omega
       simp only [execOp,v2,SV.den,Instr.fieldAt,Sem.run_bind,run_underlying hu,Result.andThen_ok,hfd,zaw,fieldPlace,yg hF,if_neg hne,Sem.run_pure,zb4,hu']
     split at h
     ·rename_i h0
      refine .v (key (.ptr k j b oo) ?_) v1 h
      simp only at h0
      simp [SV.den,h0]
     ·rename_i c hc
      simp only at hc
      split at h
      ·have hh:=zbk h;clear h;obtain ⟨el,ps,hk,h⟩:=hh
       have hh:=zdm h;clear h;obtain ⟨_,r,_,_,h⟩:=hh
       have hh:=zkg h;clear h;obtain ⟨j',b',o',he,h⟩:=hh
       refine .v (key (.ptr k j' b' o') ?_) v1 h
       simp only [SV.den,he,hc,off]
       congr 3
      ·refine .v (key (.ptr k j b (yb oo (c+1) 1)) ?_) v1 h
       simp only [SV.den,zy,hc]
       congr 3;omega
    ·rename_i A
     have hne: ¬(fi.sz=0):=by rw [hm];omega
     refine .v (v:= .xptr (A.add fd.offset)) ?_ trivial h
     simp only [execOp,v2,SV.den,Instr.fieldAt,Sem.run_bind,run_underlying hu,Result.andThen_ok,hfd,zaw,fieldPlace,yg hF,if_neg hne,Sem.run_pure]
    ·exact h.elim
  ·exact h.elim
theorem zqj (hΓ:CtxOK P Γ) (ht:TmRel Γ.nt ρ nb tm a) (s d:TypeId) (x:Operand) {K:SV→Prop} (h:xh Γ (.convert s d x) tm K):
    xi P nb ⟨dst,.convert s d x,type,pos,after,guard⟩ a ρ K:=by
  unfold xh at h
  dsimp only at h
  have hh:=z6 h;clear h;obtain ⟨si,hs,h⟩:=hh
  obtain ⟨ds,hds⟩:=(hΓ.ty s si hs).under
  have hh:=z6 h;clear h;obtain ⟨di,hd,h⟩:=hh
  have hu:=(hΓ.ty d di hd).2.2.1
  split at h
  ·rename_i kd hdd
   rw [hdd] at hu
   have hh:=xv ht h;clear h;obtain ⟨u,u1,u2,h⟩:=hh
   obtain ⟨sk,m,hn,v,hk,hok,hrun⟩:=zk2 (P:=P) (ρ:=ρ) h
   refine .v (v:=v) (fun w=>?_) (hok _) hk
   simp only [execOp,Sem.run_bind,u2,hn]
   unfold convert
   simp only [Sem.run_bind,run_underlying hds,run_underlying hu,Result.andThen_ok,hrun,Sem.run_pure]
  ·exact h.elim
theorem zp1 (hΓ:CtxOK P Γ) (hr:HpRel ρ hp w) (ht:TmRel Γ.nt ρ hp.length tm a) (s d:TypeId) (x:Operand) {K:SV→Prop} (h:zdr Γ (.convert s d x) tm hp K):
    zgr P Γ.E hp.length ⟨dst,.convert s d x,type,pos,after,guard⟩ a ρ w K:=by
  unfold zdr at h
  dsimp only at h
  have hh:=z6 h;clear h;obtain ⟨si,hs,h⟩:=hh
  have hS:=hΓ.ty s si hs
  obtain ⟨ds,hds⟩:=hS.under
  have hh:=z6 h;clear h;obtain ⟨di,hd,h⟩:=hh
  have hu:=(hΓ.ty d di hd).2.2.1
  split at h
  ·rename_i hdd
   rw [hdd] at hu
   have hh:=xv ht h;clear h;obtain ⟨u,u1,u2,h⟩:=hh
   split at h
   ·rename_i l
    refine .v (v:= .str l) ?_ trivial h
    simp only [execOp,Sem.run_bind,u2]
    unfold convert
    simp only [Sem.run_bind,run_underlying hds,run_underlying hu,Result.andThen_ok,SV.den]
    cases ds<;>rfl
   ·split at h
    ·rename_i e he
     have hsu:=hS.2.2.1
     rw [he] at hsu
     have hh:=z6 h;clear h;obtain ⟨ei,hei,h⟩:=hh
     have hE:=(hΓ.ty e ei hei).2.2.1
     split at h
     ·rename_i h8
      rw [h8] at hE
      refine .v (v:= .str []) ?_ trivial h
      simp only [execOp,Sem.run_bind,u2]
      unfold convert
      simp only [SV.den]
      simp only [Sem.run_bind,run_underlying hsu,run_underlying hu,Result.andThen_ok,run_underlying hE]
      rfl
     ·exact h.elim
    ·exact h.elim
   ·split at h
    ·rename_i e he
     have hsu:=hS.2.2.1
     rw [he] at hsu
     have hh:=z6 h;clear h;obtain ⟨ei,hei,h⟩:=hh
     have hE:=(hΓ.ty e ei hei).2.2.1
     split at h
     ·rename_i h8
      rw [h8] at hE
      have hh:=zij (P:=P) hr h;clear h;obtain ⟨l,h,_,hl⟩:=hh
      obtain ⟨_,_,h3⟩:=hl w (fun _=>rfl)
      refine .v (v:= .str l) ?_ trivial h
      have h3':=h3 (fun s hs=>by cases hs)
      simp only [execOp,Sem.run_bind,u2]
      unfold convert
      simp only [SV.den] at h3' ⊢
      simp only [Sem.run_bind,run_underlying hsu,run_underlying hu,Result.andThen_ok,run_underlying hE,h3',Sem.run_pure]
     ·exact h.elim
    ·exact h.elim
   ·exact h.elim
  ·exact h.elim
theorem zx8 (hΓ:CtxOK P Γ) (ht:TmRel Γ.nt ρ nb tm a) (c:Call) {K:SV→Prop} (h:xh Γ (.call c) tm K):
    xi P nb ⟨dst,.call c,type,pos,after,guard⟩ a ρ K:=by
  obtain ⟨callee,args,argTypes⟩:=c
  unfold xh at h
  dsimp only at h
  have hh:=zuv ht h;clear h;obtain ⟨vs,va,ve,h⟩:=hh
  have hargs:=zq4 ve
  have blt: ∀(b:Builtin) (s:Sem Value) (v:SV),callee= .builtin b→(∀cs,builtin b argTypes type cs (y4 ρ vs).toArray=(do pure (.value (←s)):Sem Next))→
   (∀w,s.run P w= .ok (v.den ρ) w)→v.ok (· <nb)→K v→xi P nb ⟨dst,.call ⟨callee,args,argTypes⟩,type,pos,after,guard⟩ a ρ K:=by
    intro b s v hb hs hv hok hk
    subst hb
    refine .v (fun w=>?_) hok hk
    have he:execOp a.eval ⟨dst,.call ⟨.builtin b,args,argTypes⟩,type,pos,after,guard⟩=(do pure (.value (←s)):Sem Next):=by
      simp only [execOp,resolve,hargs]
      exact hs _
    rw [he]
    simp only [Sem.run_bind,hv,Result.andThen_ok,Sem.run_pure]
  split at h
  ·split at h
   ·rename_i t hat
    have hat0:argTypes[0]?=some t:=by rw [←Array.getElem?_toList,hat];rfl
    have hh:=z6 h;clear h;obtain ⟨ti,hti,h⟩:=hh
    have hT:=(hΓ.ty t ti hti).2.2.1
    have fin: ∀(n:Int),K (.int n)→(∀w,(Builtin.len_ argTypes type (y4 ρ vs).toArray).run P w= .ok (.int .i64 n) w)→
     xi P nb ⟨dst,.call ⟨.builtin .len,args,argTypes⟩,type,pos,after,guard⟩ a ρ K:=by
      intro n hk hrun
      exact blt .len (Builtin.len_ argTypes type (y4 ρ vs).toArray) (.int n) rfl (fun _=>rfl) hrun trivial hk
    split at h
    ·rename_i hd
     rw [hd] at hT
     split at h
     ·rename_i l
      refine fin _ h (fun w=>?_)
      simp only [Builtin.len_,hat0,y4,SV.den,List.getElem?_toArray,List.getElem?_cons_zero,Sem.run_bind,run_underlying hT,Result.andThen_ok,Sem.run_pure,goInt]
      simp [ByteArray.size]
     ·exact h.elim
    ·rename_i e hd
     rw [hd] at hT
     split at h
     ·refine fin _ h (fun w=>?_)
      simp only [Builtin.len_,hat0,y4,SV.den,List.getElem?_toArray,List.getElem?_cons_zero,Sem.run_bind,run_underlying hT,Result.andThen_ok,Sem.run_pure,goInt]
     ·refine fin _ h (fun w=>?_)
      simp only [Builtin.len_,hat0,y4,SV.den,List.getElem?_toArray,List.getElem?_cons_zero,Sem.run_bind,run_underlying hT,Result.andThen_ok,Sem.run_pure,goInt]
      rfl
     ·refine fin _ h (fun w=>?_)
      simp only [Builtin.len_,hat0,y4,SV.den,List.getElem?_toArray,List.getElem?_cons_zero,Sem.run_bind,run_underlying hT,Result.andThen_ok,Sem.run_pure,goInt]
     ·exact h.elim
    ·rename_i n e hd
     rw [hd] at hT
     split at h
     ·refine fin _ h (fun w=>?_)
      simp only [Builtin.len_,hat0,y4,List.getElem?_toArray,List.getElem?_cons_zero,Sem.run_bind,run_underlying hT,Result.andThen_ok,Sem.run_pure,goInt]
     ·exact h.elim
    ·exact h.elim
   ·exact h.elim
  ·have m2: ∀(x y:Int) w,(Builtin.min2 (.int .i64 x) (.int .i64 y)).run P w= .ok (.int .i64 (min x y)) w:=fun x y w=>by
     simp only [Builtin.min2,Sem.run_pure]
     congr 2
     split<;>omega
   split at h
   ·rename_i x y
    refine blt .min (Builtin.min_ argTypes type _) (.int (min x y)) rfl (fun _=>rfl) (fun w=>?_) trivial h
    simp only [Builtin.min_,y4,SV.den,List.foldlM_cons,List.foldlM_nil,Sem.run_bind,m2,Result.andThen_ok,Sem.run_pure]
   ·rename_i x y z
    refine blt .min (Builtin.min_ argTypes type _) (.int (min (min x y) z)) rfl (fun _=>rfl) (fun w=>?_) trivial h
    simp only [Builtin.min_,y4,SV.den,List.foldlM_cons,List.foldlM_nil,Sem.run_bind,m2,Result.andThen_ok,Sem.run_pure]
   ·exact h.elim
  ·have m2: ∀(x y:Int) w,(Builtin.max2 (.int .i64 x) (.int .i64 y)).run P w= .ok (.int .i64 (max x y)) w:=fun x y w=>by
     simp only [Builtin.max2,Sem.run_pure]
     congr 2
     split<;>omega
   split at h
   ·rename_i x y
    refine blt .max (Builtin.max_ argTypes type _) (.int (max x y)) rfl (fun _=>rfl) (fun w=>?_) trivial h
    simp only [Builtin.max_,y4,SV.den,List.foldlM_cons,List.foldlM_nil,Sem.run_bind,m2,Result.andThen_ok,Sem.run_pure]
   ·rename_i x y z
    refine blt .max (Builtin.max_ argTypes type _) (.int (max (max x y) z)) rfl (fun _=>rfl) (fun w=>?_) trivial h
    simp only [Builtin.max_,y4,SV.den,List.foldlM_cons,List.foldlM_nil,Sem.run_bind,m2,Result.andThen_ok,Sem.run_pure]
   ·exact h.elim
  ·exact h.elim
variable {m:Nat}
theorem ztc (hΓ:CtxOK P Γ) (t:TypeId) {K:SV→Blk→Prop} (h:zbu Γ (.alloc t) tm m K):
    ziv P nb m ⟨dst,.alloc t,type,pos,after,guard⟩ a ρ K:=by
  unfold zbu at h
  dsimp only at h
  have hh:=z6 h;clear h;obtain ⟨ti,hti,h⟩:=hh
  have hT:=hΓ.ty t ti hti
  have hh:=zei (p:=fun _=>False) ρ h;clear h;obtain ⟨ps,h,hc,_,hok⟩:=hh
  refine ⟨_,_,_,h,rfl,yq (fun _ hf=>hf.elim) _ (hok hT.2.1.1),fun ρ1 w hm=>?_⟩
  simp only [execOp,Instr.alloc,Sem.run_bind,zap (ρ:=ρ) hT,Result.andThen_ok,newVar,newRow,run_newObj,Sem.run_pure,zcr,hc,SV.den,hm,off]
  rfl
theorem zz2 (ht:TmRel Γ.nt ρ nb tm a) (t:TypeId) (x:Operand) {K:SV→Blk→Prop} (h:zbu Γ (.box t x) tm m K):
    ziv P nb m ⟨dst,.box t x,type,pos,after,guard⟩ a ρ K:=by
  unfold zbu at h
  dsimp only at h
  have hh:=xv ht h;clear h;obtain ⟨v,h1,h2,h⟩:=hh
  have hh:=zei (p:=(· <nb)) ρ h;clear h;obtain ⟨ps,h,hc,_,hok⟩:=hh
  refine ⟨_,_,_,h,rfl,hok h1,fun ρ1 w hm=>?_⟩
  simp only [execOp,Instr.box,Sem.run_bind,Result.andThen_ok,newVar,newRow,run_newObj,Sem.run_pure,h2,zcr,hc,SV.den,hm,off]
  rfl
theorem zmy (hΓ:CtxOK P Γ) (ht:TmRel Γ.nt ρ nb tm a) (t:TypeId) (x y:Operand) {K:SV→Blk→Prop} (h:zbu Γ (.makeSlice t x y) tm m K):
    ziv P nb m ⟨dst,.makeSlice t x y,type,pos,after,guard⟩ a ρ K:=by
  unfold zbu at h
  dsimp only at h
  have hh:=xv ht h;clear h;obtain ⟨nv,nv0,n2,h⟩:=hh
  have hh:=xv ht h;clear h;obtain ⟨cv,cv0,c2,h⟩:=hh
  have hh:=zmr (ρ:=ρ) h;clear h;obtain ⟨n,h,hn⟩:=hh
  have hh:=zmr (ρ:=ρ) h;clear h;obtain ⟨c,h,hc⟩:=hh
  have hh:=z6 h;clear h;obtain ⟨ti,hti,h⟩:=hh
  have hu:=(hΓ.ty t ti hti).2.2.1
  split at h
  ·rename_i e hd
   rw [hd] at hu
   have hh:=z6 h;clear h;obtain ⟨ei,he,h⟩:=hh
   have hE:=hΓ.ty e ei he
   have hh:=zm h;clear h;obtain ⟨⟨h1,h2,h3⟩,h⟩:=hh
   obtain ⟨ps,h,hok,hcells⟩:=zwn (p:=(· <nb)) (ρ:=ρ) h
   obtain ⟨⟨info,i1,i2,i3,i4⟩,⟨_,_,hsz⟩,_⟩:=hE
   obtain ⟨kn,hn⟩:=hn
   obtain ⟨kc,hc⟩:=hc
   have hcc:madeCells (ei.zero.den ρ).cells ((c:Int).toNat*info.size)=(zq ρ ps).toArray:=by
     apply Array.ext'
     rw [←hcells,i2,←hsz];simp
   refine ⟨_,_,_,h,by simp [SV.ok],hok,fun ρ1 w hm=>?_⟩
   have hrun:=run_make (P:=P) w t e info (ei.zero.den ρ) hu i1 (i4 ρ) kn kc n c (by omega) (by omega) (by
     have:(info.bytes:Int)*(c:Int)=((ei.bytes*c:Nat):Int):=by rw [i3];simp
     rw [this];omega) (by omega)
   rw [hcc] at hrun
   simp only [execOp,Sem.run_bind,n2,c2,hn,hc,hrun,Result.andThen_ok,Sem.run_pure,SV.den,hm,off]
   simp
  ·exact h.elim
theorem zkc (hΓ:CtxOK P Γ) (ht:TmRel Γ.nt ρ nb tm a) (t:TypeId) (n:Nat) (qs:Array (Nat×Operand)) {K:SV→Blk→Prop} (h:zbu Γ (.buildSlice t n qs) tm m K):
    ziv P nb m ⟨dst,.buildSlice t n qs,type,pos,after,guard⟩ a ρ K:=by
  unfold zbu at h
  dsimp only at h
  have hh:=zor ht h;clear h;obtain ⟨given,g1,g2,h⟩:=hh
  have e:(qs.map fun (i,x)=>(i,a.eval x))=(given.map fun g=>(g.1,g.2.den ρ)).toArray:=by
    apply Array.ext';simp only [Array.toList_map];exact g2
  have hh:=z6 h;clear h;obtain ⟨ti,hti,h⟩:=hh
  have hu:=(hΓ.ty t ti hti).2.2.1
  split at h
  ·rename_i el hd
   rw [hd] at hu
   have hh:=z6 h;clear h;obtain ⟨ei,he,h⟩:=hh
   have hE:=hΓ.ty el ei he
   have hh:=zm h;clear h;obtain ⟨h1,h⟩:=hh
   have hh:=zwn (p:=(· <nb)) (ρ:=ρ) h;clear h;obtain ⟨zs,h,hok,hcells⟩:=hh
   have hh:=zf7 (ρ:=ρ) hok g1 h;clear h;obtain ⟨ps,h,hok',hfill⟩:=hh
   have hsz:=hE.2.1.2.2
   refine ⟨_,_,_,h,by simp [SV.ok],hok',fun ρ1 w hm=>?_⟩
   have hb:(Instr.buildSlice t n (given.map fun g=>(g.1,g.2.den ρ)).toArray).run P w= .ok (.slice (some ⟨w.heap.size,0,none⟩) n n) (w.alloc (.cells (zq ρ ps).toArray el)):=by
     unfold Instr.buildSlice
     have hgt: ¬(n*ei.sz>2^24):=by omega
     have hmade:(madeCells (ei.zero.den ρ).cells (n*ei.sz))=(zq ρ zs).toArray:=by
       rw [←hsz];apply Array.ext';rw [hcells]
     simp only [Sem.run_bind,run_underlying hu,Result.andThen_ok,yg hE,hgt,if_false]
     by_cases h0:n*ei.sz=0
     ·have hz0:(zq ρ zs).toArray= #[]:=by rw [←hmade,h0];simp [madeCells,Array.range_zero']
      simp only [h0,if_true,Sem.run_bind,Sem.run_pure,Result.andThen_ok]
      have e0:(Array.map (fun x=>(#[]:Array Value)[x%(#[]:Array Value).size]!) (Array.range 0))=(zq ρ zs).toArray:=by rw [hz0];simp
      rw [e0,hfill]
      rfl
     ·simp only [if_neg h0,Sem.run_bind,zap (ρ:=ρ) hE,Result.andThen_ok,Sem.run_pure]
      have e0:(Array.map (fun x=>(ei.zero.den ρ).cells[x%(ei.zero.den ρ).cells.size]!) (Array.range (n*ei.sz)))=(zq ρ zs).toArray:=hmade
      rw [e0,hfill]
      rfl
   simp only [execOp,Sem.run_bind]
   rw [e,hb]
   simp only [Result.andThen_ok,Sem.run_pure,SV.den,hm,off]
  ·exact h.elim
end
end Go.Sym

namespace Go.Sym
section
variable {P:Program} {Γ:Ctx} {ρ:Nat→Nat} {hp:List Blk} {w:World} {tm:List (Nat×SV)} {a:Act} {nb:Nat}
def zcs (P:Program) (o:Oper) (a:Act) (ρ:Nat→Nat) (hp:List Blk) (w:World) (put:SV→List Blk→Prop) (skip:List Blk→Prop):Prop:=
  (∃v ρ' hp' w',(execOp a.eval o).run P w= .ok (.value (v.den ρ')) w'∧v.ok (· <hp'.length)∧Step ρ hp w ρ' hp' w'∧put v hp')∨
  (∃hp' w',(execOp a.eval o).run P w= .ok .skip w'∧Step ρ hp w ρ hp' w'∧skip hp')∨
  (∃f args,(execOp a.eval o).run P w= .ok (.enter f args) w∧Calls P f args w fun e w'=> ∃v ρ' hp',e= .returned (v.den ρ')∧v.ok (· <hp'.length)∧Step ρ hp w ρ' hp' w'∧put v hp')
theorem zcs.mem {o:Oper} {put:SV→List Blk→Prop} {skip:List Blk→Prop} {s:Sem Value} (he:execOp a.eval o=(do pure (.value (←s)):Sem Next)) (h:Mem P ρ hp w put s):zcs P o a ρ hp w put skip:=by
  obtain ⟨v,ρ',hp',w',h1,h2,h3,h4⟩:=h
  refine .inl ⟨v,ρ',hp',w',?_,h2,h3,h4⟩
  rw [he];simp only [Sem.run_bind,h1,Result.andThen_ok,Sem.run_pure]
variable (dst:Option Nat) (type:TypeId) (pos:String) (after:Array Edge) (guard:Option (Nat×Bool))
theorem zra (hΓ:CtxOK P Γ) (hr:HpRel ρ hp w) (ht:TmRel Γ.nt ρ hp.length tm a) (t:TypeId) (x y:Operand) {put:SV→List Blk→Prop} {skip:List Blk→Prop}
    (h:zbf Γ (.store t x y) tm hp put skip):zcs P ⟨dst,.store t x y,type,pos,after,guard⟩ a ρ hp w put skip:=by
  unfold zbf at h
  dsimp only at h
  have hh:=z6 h;clear h;obtain ⟨ti,hti,h⟩:=hh
  have hT:=hΓ.ty t ti hti
  have hh:=xv ht h;clear h;obtain ⟨v,v0,h2,h⟩:=hh
  have hh:=xv ht h;clear h;obtain ⟨u,hu,h3,h⟩:=hh
  split at h
  ·rename_i k j b oo
   have hh:=zbk h;clear h;obtain ⟨el,ps,hk,h⟩:=hh
   obtain ⟨hok,el0,fz,hblk,hfz⟩:=hr.mem k el ps hk
   have hh:=zh3 (ρ:=ρ) hok hu h;clear h;obtain ⟨ps',h,hok',hlen,hw1,hw2,hw3⟩:=hh
   have hh:=zdf h;clear h;obtain ⟨_,h⟩:=hh
   have hst:=xm (P:=P) (b:=ρ k) (s:=b+off oo) (el:=el0) (fz:=fz) (u.cells ρ) 0 (zq ρ ps) w hblk hfz (by simpa using hw2) hw3
   rw [Nat.add_zero,←hw1] at hst
   refine .inr (.inl ⟨_,_,?_,Step.write (el0:=el0) (fz:=fz) hr hk hok' (by rw [hw1,y6 _ _ _ hw2];exact hfz),h⟩)
   have hsz: ¬((u.cells ρ).toArray.size≠ti.sz):=by simp [hlen]
   simp only [execOp,Instr.storeAt,h2,h3,SV.den,Sem.run_bind,zaw,Result.andThen_ok,storeVar,yg hT,zcr]
   rw [if_neg hsz]
   rw [hst];rfl
  ·exact h.elim
theorem zlh (hΓ:CtxOK P Γ) (hr:HpRel ρ hp w) (ht:TmRel Γ.nt ρ hp.length tm a) (s d:TypeId) (x:Operand) {put:SV→List Blk→Prop} {skip:List Blk→Prop}
    (h:zbf Γ (.convert s d x) tm hp put skip):zcs P ⟨dst,.convert s d x,type,pos,after,guard⟩ a ρ hp w put skip:=by
  unfold zbf at h
  dsimp only at h
  have hh:=xv ht h;clear h;obtain ⟨v,v1,v2,h⟩:=hh
  refine .mem (s:=convert s d (a.eval x)) rfl ?_
  rw [v2]
  exact z3u hΓ hr h
theorem zsg (hΓ:CtxOK P Γ) (hr:HpRel ρ hp w) (ht:TmRel Γ.nt ρ hp.length tm a) (c:Call) {put:SV→List Blk→Prop} {skip:List Blk→Prop}
    (h:zbf Γ (.call c) tm hp put skip):zcs P ⟨dst,.call c,type,pos,after,guard⟩ a ρ hp w put skip:=by
  obtain ⟨callee,args,argTypes⟩:=c
  unfold zbf at h
  dsimp only at h
  have hh:=zuv ht h;clear h;obtain ⟨vs,va,ve,h⟩:=hh
  have hargs:=zq4 ve
  have blt: ∀(b:Builtin) (s:Sem Value),callee= .builtin b→(∀cs,builtin b argTypes type cs (y4 ρ vs).toArray=(do pure (.value (←s)):Sem Next))→
   execOp a.eval ⟨dst,.call ⟨callee,args,argTypes⟩,type,pos,after,guard⟩=(do pure (.value (←s)):Sem Next):=by
    intro b s hb hs
    subst hb
    simp only [execOp,resolve,hargs]
    exact hs _
  split at h
  ·rename_i f
   have hh:=xv ht h;clear h;obtain ⟨fv,f1,f2,h⟩:=hh
   split at h
   ·rename_i fi caps
    have hh:=z6 h;clear h;obtain ⟨S,hS,h⟩:=hh
    have hh:=zd9 h;clear h;have h:=hh;clear hh
    have hout:=z55 hr (hΓ.fn fi S hS) (y9.2 ⟨va,f1⟩) h
    have hexec:execOp a.eval ⟨dst,.call ⟨.value f,args,argTypes⟩,type,pos,after,guard⟩=callFunc fi (y4 ρ (vs++caps)).toArray:=by
      simp only [execOp,resolve,f2,SV.den,Deferred.ofValue,hargs,zsa]
      show invoke (.fn (.func fi) (y4 ρ caps).toArray) _=_
      simp [invoke]
    rcases hout with ⟨r,ρ',hp',w',h1,h2,h3,h4⟩|⟨h1,h2⟩
    ·exact .inl ⟨r,ρ',hp',w',by rw [hexec,h1],h3,h4,h2⟩
    ·refine .inr (.inr ⟨fi,_,by rw [hexec,h1],h2.mono fun e w' ⟨r,ρ',hp',he,g1,g2,g3⟩=>⟨r,ρ',hp',he,g2,g3,g1⟩⟩)
   ·exact h.elim
  ·split at h
   ·rename_i d s
    split at h
    ·rename_i t ats hat
     have hat0:argTypes=(t ::ats).toArray:=by apply Array.ext';rw [hat]
     refine .mem (blt .copy (Builtin.copy_ argTypes type _) rfl (fun _=>rfl)) ?_
     rw [hat0]
     exact z4p hΓ hr va.1 h
    ·exact h.elim
   ·exact h.elim
  ·split at h
   ·rename_i s x
    split at h
    ·rename_i t u hat
     have hat0:argTypes= #[t,u]:=by apply Array.ext';rw [hat]
     refine .mem (blt .append (Builtin.append_ argTypes type _) rfl (fun _=>rfl)) ?_
     rw [hat0]
     exact zxc hΓ hr h
    ·exact h.elim
   ·exact h.elim
  ·exact h.elim
theorem zoy (hΓ:CtxOK P Γ) (ht:TmRel Γ.nt ρ nb tm a) (o:Oper) {K:SV→Prop} (h:xh Γ o.op tm K):xi P nb o a ρ K:=by
  obtain ⟨dst,op,type,pos,after,guard⟩:=o
  cases op
  case move x=>exact zw1 dst type pos after guard hΓ ht x h
  case assign x=>exact zsy dst type pos after guard hΓ ht x h
  case pick c x y=>exact zw0 dst type pos after guard hΓ ht c x y h
  case build t ps=>exact zux dst type pos after guard hΓ ht t ps h
  case nilCheck x=>exact znd dst type pos after guard hΓ ht x h
  case binOp op t x y t'=>exact zum dst type pos after guard hΓ ht op t x y t' h
  case unOp op t x=>exact zyh dst type pos after guard hΓ ht op t x h
  case slice t x lo hi mx=>exact zun dst type pos after guard hΓ ht t x lo hi mx h
  case field s x f=>exact ztp dst type pos after guard hΓ ht s x f h
  case indexAddr t x i=>exact zm5 dst type pos after guard hΓ ht t x i h
  case index t x i=>exact ztq dst type pos after guard hΓ ht t x i h
  case makeFunc fn first caps=>exact zm9 dst type pos after guard ht fn first caps h
  case extract x i=>exact zqv dst type pos after guard ht x i h
  case convert s d x=>exact zqj dst type pos after guard hΓ ht s d x h
  case call c=>exact zx8 dst type pos after guard hΓ ht c h
  all_goals exact h.elim
theorem zki (hΓ:CtxOK P Γ) (hr:HpRel ρ hp w) (ht:TmRel Γ.nt ρ hp.length tm a) (o:Oper) {K:SV→Prop} (h:zdr Γ o.op tm hp K):zgr P Γ.E hp.length o a ρ w K:=by
  obtain ⟨dst,op,type,pos,after,guard⟩:=o
  cases op
  case load t x=>exact zxi dst type pos after guard hΓ hr ht t x h
  case fieldAddr s x f=>exact zk6 dst type pos after guard hΓ hr ht s x f h
  case convert s d x=>exact zp1 dst type pos after guard hΓ hr ht s d x h
  all_goals exact h.elim
theorem zsl (hΓ:CtxOK P Γ) (ht:TmRel Γ.nt ρ nb tm a) (o:Oper) {m:Nat} {K:SV→Blk→Prop} (h:zbu Γ o.op tm m K):ziv P nb m o a ρ K:=by
  obtain ⟨dst,op,type,pos,after,guard⟩:=o
  cases op
  case alloc t=>exact ztc dst type pos after guard hΓ t h
  case box t x=>exact zz2 dst type pos after guard ht t x h
  case makeSlice t x y=>exact zmy dst type pos after guard hΓ ht t x y h
  case buildSlice t n qs=>exact zkc dst type pos after guard hΓ ht t n qs h
  all_goals exact h.elim
theorem zos (hΓ:CtxOK P Γ) (hr:HpRel ρ hp w) (ht:TmRel Γ.nt ρ hp.length tm a) (o:Oper) {put:SV→List Blk→Prop} {skip:List Blk→Prop} (h:zbf Γ o.op tm hp put skip):
    zcs P o a ρ hp w put skip:=by
  obtain ⟨dst,op,type,pos,after,guard⟩:=o
  cases op
  case store t x y=>exact zra dst type pos after guard hΓ hr ht t x y h
  case convert s d x=>exact zlh dst type pos after guard hΓ hr ht s d x h
  case call c=>exact zsg dst type pos after guard hΓ hr ht c h
  all_goals exact h.elim
end
end Go.Sym
