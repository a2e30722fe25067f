/-
  The symbolic engine, part 27: a law's end: rows of data that lie outside, and the statement's own readings. No program in sight; no condition beyond each lemma's own.
-/
import Derived.Test.YtmmpgjcpielefaaGreatGLStreamActs11
import Derived.WalkKit
import Derived.ProofKit
import Derived.OpenShut
import Derived.ShutString
import Derived.ChangeOld
import Derived.Below
import Derived.SizedLaws
import Derived.ChangeArms
import Derived.Deep.Slices
set_option linter.unusedSimpArgs false
set_option linter.unusedVariables false
namespace Go.Sym
open Go.ChangeShapes Go.WideShapes Go.ChangeAt Go.RowKit
def zqn (fn:Func):Code:=match fn.body with|some c=>c|none=> .skip
inductive Fl where
  |b|i|s
  deriving DecidableEq
def Fl.has:Fl→At→Prop
  | .b,.bool _=>True
  | .i,.int n=> -9223372036854775808≤n∧n≤9223372036854775807
  | .s,.str l=>l.length≤140737488351232
  |_,_=>False
def Fl.isB (P:Program) (fl:Fl) (t:TypeId):Bool:=
  match P.underlying t,fl with
  |some .bool,.b=>P.cellsOf t==1
  |some (.int .i64),.i=>P.cellsOf t==1
  |some .string,.s=>P.cellsOf t==1
  |_,_=>false
def zr6 (P:Program):List Fl→List Field→Nat→Bool
  | [],[],_=>true
  |fl ::fls,f ::fs,j=>(f.offset==j)&&fl.isB P f.type&&zr6 P fls fs (j+1)
  |_,_,_=>false
def ziy:List Fl→List At→Prop
  | [],[]=>True
  |fl ::fls,a ::as=>fl.has a∧ziy fls as
  |_,_=>False
section
variable {H:Type} {enc:TypeId×Value→H} {P:Program} {w:World} {base:Nat} {sp:Nat→Bool} {held:Bool}
theorem ydl {fl:Fl} {t:TypeId} (ht:fl.isB P t=true):(P.underlying t=some .bool∧fl= .b∨P.underlying t=some (.int .i64)∧fl= .i∨P.underlying t=some .string∧fl= .s)∧P.cellsOf t=1:=by
  unfold Fl.isB at ht
  split at ht
  ·rename_i h;exact ⟨.inl ⟨h,rfl⟩,by simpa using ht⟩
  ·rename_i h;exact ⟨.inr (.inl ⟨h,rfl⟩),by simpa using ht⟩
  ·rename_i h;exact ⟨.inr (.inr ⟨h,rfl⟩),by simpa using ht⟩
  ·cases ht
theorem z2v {fl:Fl} {t:TypeId} (ht:fl.isB P t=true) {fuel:Nat} {cs:List Value} {x:DataW H×List MemPlace} (h:DataW.trod enc P w base sp held fuel t cs=some x):
    (∃b,fl= .b∧cs= [.bool b])∨(∃n,fl= .i∧cs= [.int .i64 n]∧(Lit.int .i64 n).wf=true)∨(∃s:ByteArray,fl= .s∧cs= [.string s]∧x=(.lit (.string s.data.toList),[])):=by
  rcases (ydl ht).1 with ⟨hu,hf⟩|⟨hu,hf⟩|⟨hu,hf⟩
  ·obtain ⟨b,h1,_⟩:=DataW.trod_bool hu h;exact .inl ⟨b,hf,h1⟩
  ·obtain ⟨n,h1,_,h2⟩:=DataW.trod_int hu h;exact .inr (.inl ⟨n,hf,h1,h2⟩)
  ·obtain ⟨n,h1,h2,_⟩:=DataW.trod_string hu h;exact .inr (.inr ⟨n,hf,h1,h2⟩)
theorem zvm {fl:Fl} {t:TypeId} (ht:fl.isB P t=true) {fuel:Nat} {cs:List Value} {x:DataW H×List MemPlace} (h:DataW.trod enc P w base sp held fuel t cs=some x)
    (hw: ∀n∈x.1.weights P t,n≤reachBytes): ∃a,cs= [At.val a]∧fl.has a:=by
  rcases z2v ht h with ⟨b,rfl,rfl⟩|⟨n,rfl,rfl,hwf⟩|⟨s,rfl,rfl,rfl⟩
  ·exact ⟨.bool b,rfl,trivial⟩
  ·refine ⟨.int n,rfl,?_⟩
   show-9223372036854775808≤n∧n≤9223372036854775807
   simp only [Lit.wf,Bool.and_eq_true,decide_eq_true_eq] at hwf
   exact hwf
  ·refine ⟨.str s.data.toList,rfl,?_⟩
   show s.data.toList.length≤140737488351232
   exact hw s.data.toList.length (by simp only [DataW.weights,List.mem_singleton])
theorem z3g {fl:Fl} {t:TypeId} (ht:fl.isB P t=true):P.cellsOf t=1:=(ydl ht).2
theorem zrq: ∀(fls:List Fl) (fs:List Field) (j:Nat) (xs:List (DataW H×List MemPlace)) (cs:List Value) (n:Nat),zr6 P fls fs j=true→cs.length=j+fs.length→
    (∀(i:Nat) (f:Field),fs[i]?=some f→DataW.trod enc P w base sp held n f.type ((cs.drop f.offset).take (P.cellsOf f.type))=xs[i]?)→xs.length=fs.length→
    (∀m∈DataW.weightsEach P (fs.map (·.type)) (xs.map (·.1)),m≤reachBytes)→ ∃as,cs.drop j=as.map At.val∧ziy fls as
  | [],[],j,xs,cs,n,_,hl,_,_,_=>⟨[],by rw [List.drop_eq_nil_iff.2 (by simpa using Nat.le_of_eq hl)];rfl,trivial⟩
  | [],_ ::_,_,_,_,_,h,_,_,_,_=>by simp [zr6] at h
  |_ ::_,[],_,_,_,_,h,_,_,_,_=>by simp [zr6] at h
  |fl ::fls,f ::fs,j,[],cs,n,h,hl,hx,hxl,hw=>by simp at hxl
  |fl ::fls,f ::fs,j,x ::xs,cs,n,h,hl,hx,hxl,hw=>by
   simp only [zr6,Bool.and_eq_true,beq_iff_eq] at h
   obtain ⟨⟨h1,h2⟩,h3⟩:=h
   have h0:=hx 0 f rfl
   rw [h1,z3g h2] at h0
   simp only [List.getElem?_cons_zero] at h0
   obtain ⟨a,ha,hha⟩:=zvm h2 h0 (fun m hm=>hw m (by simp only [List.map_cons,DataW.weightsEach,List.mem_append];exact .inl hm))
   obtain ⟨as,has,hhas⟩:=zrq fls fs (j+1) xs cs n h3 (by simp at hl ⊢;omega) (fun i g hg=>by simpa using hx (i+1) g (by simpa using hg)) (by simpa using hxl)
     (fun m hm=>hw m (by simp only [List.map_cons,DataW.weightsEach,List.mem_append];exact .inr hm))
   refine ⟨a ::as,?_,hha,hhas⟩
   have hjl:j<cs.length:=by simp at hl;omega
   rw [List.drop_eq_getElem_cons hjl] at ha ⊢
   rw [List.take_succ_cons,List.take_zero] at ha
   rw [has,List.map_cons,(List.cons.inj ha).1]
def yer (P:Program) (e:TypeId) (one:Bool) (fls:List Fl):Prop:=
  match one,fls with
  |true,[fl]=>fl.isB P e=true
  |true,_=>False
  |false,fls=> ∃fs,P.underlying e=some (.struct fs)∧zr6 P fls fs.toList 0=true∧P.cellsOf e=fs.size
def zxq (one:Bool) (as:List At):SV:=
  match one,as with
  |true,[a]=>a.sv
  |_,as=> .agg (as.map At.sv)
theorem z3m {e:TypeId} {one:Bool} {fls:List Fl} (he:yer P e one fls) {fuel:Nat} {cs:List Value} {x:DataW H×List MemPlace} (h:DataW.trod enc P w base sp held fuel e cs=some x)
    (hw: ∀n∈x.1.weights P e,n≤reachBytes): ∃as,cs=as.map At.val∧ziy fls as:=by
  unfold yer at he
  split at he
  ·obtain ⟨a,h1,h2⟩:=zvm he h hw
   exact ⟨[a],h1,h2,trivial⟩
  ·exact he.elim
  ·obtain ⟨fs,hu,hfl,hn⟩:=he
   obtain ⟨xs,n,rfl,rfl,hlen,hxl,hx⟩:=DataW.trod_struct hu h
   obtain ⟨as,h1,h2⟩:=zrq fls fs.toList 0 xs cs n hfl (by simp [hlen,hn]) (fun i f hf=>hx i f (by simpa using hf)) (by simpa using hxl) (fun m hm=>hw m (by simpa [DataW.weights,hu] using hm))
   exact ⟨as,by simpa using h1,h2⟩
structure Row where
  t:TypeId
  a:Addr
  es:Nat
  one:Bool
  rows:List (List At)
def zeq (rs:List Row) (a:Addr) (t:TypeId) (v:SV):Prop:= ∃r∈rs,∃(i:Nat) (as:List At),t=r.t∧a=r.a.add (i*r.es)∧r.rows[i]?=some as∧v=zxq r.one as
structure RowOK (P:Program) (w:World) (r:Row):Prop where
  ty: ∃(ti:TyI),yt P r.t ti∧ti.sz=r.es∧((r.one=true∧ti.d.agg=false∧r.es=1)∨(r.one=false∧ti.d.agg=true))
  len: ∀as∈r.rows,as.length=r.es
  cell: ∀i as,r.rows[i]?=some as→ ∀j a,as[j]?=some a→(w.cell? ((r.a.add (i*r.es)).add j))=some a.val
theorem At.sv_den (ρ:Nat→Nat) (a:At):a.sv.den ρ=a.val:=by cases a<;>rfl
theorem At.sv_cells (ρ:Nat→Nat) (a:At):a.sv.cells ρ= [a.val]:=by cases a<;>rfl
theorem z1t (p:Nat→Prop): ∀as:List At,okL p (as.map At.sv)
  | []=>trivial
  |a ::as=>⟨a.sv_ok,z1t p as⟩
theorem zio (ρ:Nat→Nat): ∀as:List At,zw ρ (as.map At.sv)=as.map At.val
  | []=>rfl
  |a ::as=>by simp only [List.map_cons,zw,At.sv_cells,zio ρ as];rfl
theorem Addr.add_none {a:Addr} {i:Nat} {w:World} {v:Value} (h:w.cell? (a.add i)=some v):(a.add i).spot=none∧ ∃c el fz,w.heap[(a.add i).block]?=some (.cells c el fz)∧c[(a.add i).off]?=some v:=by
  unfold World.cell? at h
  split at h
  ·rename_i c el fz hc
   split at h
   ·cases h
   ·rename_i hs
    refine ⟨by simpa using hs,c,el,fz,hc,h⟩
  ·cases h
theorem z6h {rs:List Row} (hrs: ∀r∈rs,RowOK P w r) (hpos: ∀r∈rs,0<r.es) (a:Addr) (t:TypeId) (v:SV) (h:zeq rs a t v):
    v.ok (fun _=>False)∧ ∀(ρ:Nat→Nat) w',Ext (fun _=>False) w w'→(loadVar t a).run P w'= .ok (v.den ρ) w':=by
  obtain ⟨r,hr,i,as,rfl,rfl,hi,rfl⟩:=h
  obtain ⟨⟨ti,hti,hsz,hone⟩,hlen,hcell⟩:=hrs r hr
  have hl:as.length=r.es:=hlen as (List.mem_of_getElem? hi)
  have hp:=hpos r hr
  obtain ⟨a0,ha0⟩: ∃a0,as[0]?=some a0:=⟨as[0]'(by omega),List.getElem?_eq_getElem (by omega)⟩
  have hadd0: ∀b:Addr,b.add 0=b:=fun b=>by simp [Addr.add]
  have h0:=hcell i as hi 0 a0 ha0
  rw [hadd0] at h0
  obtain ⟨hspot,c,el,fz,hblk,hoff⟩:=Addr.add_none h0
  generalize hb:r.a.add (i*r.es)=b at*
  obtain ⟨blk,o,spot⟩:=b
  simp only at hspot hblk hoff
  subst hspot
  refine ⟨?_,fun ρ w' hx=>?_⟩
  ·unfold zxq
   split
   ·exact At.sv_ok _
   ·exact z1t _ _
  ·have hblk':w'.heap[blk]?=some (.cells c el fz):=by
     rw [hx.keep blk (Array.getElem?_eq_some_iff.1 hblk).1 (fun h=>h)];exact hblk
   refine zfz (L:=c.toList) hti (fun i=>by unfold World.cell?;rw [hblk'];simp) ?_
   have hat: ∀j x,as[j]?=some x→c.toList[o+j]?=some x.val:=fun j x hj=>by
     have:=hcell i as hi j x hj
     rw [hb] at this
     unfold World.cell? at this
     by_cases hj0:j=0
     ·subst hj0;rw [hadd0] at this;rw [hblk] at this;simpa using this
     ·have e:(⟨blk,o,none⟩:Addr).add j=⟨blk,o+j,none⟩:=by simp [Addr.add,hj0]
      rw [e] at this;simp only [hblk] at this;simpa using this
   rcases hone with ⟨h1,h2,h3⟩|⟨h1,h2⟩
   ·refine .inl ⟨h2,?_⟩
    rw [h3] at hl
    obtain ⟨x,rfl⟩: ∃x,as= [x]:=by
      cases as with
      |nil=>simp at hl
      |cons x r=>cases r with
       |nil=>exact ⟨x,rfl⟩
       |cons y r=>simp at hl
    ·rw [h1]
     exact ⟨At.sv_scalar x,by have:=hat 0 x (by first|rfl|simp);rw [Nat.add_zero] at this;rw [this];exact congrArg some (At.sv_den ρ x).symm⟩
   ·refine .inr ⟨h2,?_⟩
    have e:zxq r.one as= .agg (as.map At.sv):=by rw [h1];rfl
    rw [e]
    refine ⟨rfl,?_,fun j hj=>?_⟩
    ·simp only [SV.cells,zio,List.length_map,hl,hsz]
    ·simp only [SV.cells,zio]
     obtain ⟨x,hx'⟩: ∃x,as[j]?=some x:=⟨as[j]'(by omega),List.getElem?_eq_getElem (by omega)⟩
     rw [hat j x hx',List.getElem?_map,hx'];rfl
theorem zpp {f:Nat→Option Value}: ∀{l:List Nat} {L:List Value},l.mapM f=some L→L.length=l.length∧ ∀k:Nat,∀v i,L[k]?=some v→l[k]?=some i→f i=some v
  | [],L,h=>by cases h;exact ⟨rfl,fun k v i h=>by simp at h⟩
  |x ::l,L,h=>by
   rw [List.mapM_cons] at h
   obtain ⟨y,hy,h⟩:=Option.bind_eq_some_iff.1 h
   obtain ⟨ys,hys,h⟩:=Option.bind_eq_some_iff.1 h
   cases h
   obtain ⟨h1,h2⟩:=zpp hys
   refine ⟨by simp [h1],fun k v i hk hi=>?_⟩
   cases k with
   |zero=>simp at hk hi;subst hk;subst hi;exact hy
   |succ k=>exact h2 k v i (by simpa using hk) (by simpa using hi)
theorem z37 {f:Nat→Option Value} {m:Nat} {L:List Value} (h:(List.range m).mapM f=some L):L.length=m∧ ∀k:Nat,∀v,L[k]?=some v→f k=some v:=by
  obtain ⟨h1,h2⟩:=zpp h
  rw [List.length_range] at h1
  refine ⟨h1,fun k v hk=>h2 k v k hk ?_⟩
  have:k<m:=by rw [←h1];exact (List.getElem?_eq_some_iff.1 hk).1
  simp [this]
theorem z8c {t e:TypeId} (hu:P.underlying t=some (.slice e)) {one:Bool} {fls:List Fl} (he:yer P e one fls) (hes:P.cellsOf e=fls.length) (hpos:0<fls.length) {v:Value} {d:DataW H} {ps:List MemPlace}
    (hv: ∃a n c,v= .slice a n c) (h:DataW.Trod enc P w base sp held t v d ps) (hw: ∀n∈d.weights P t,n≤reachBytes):
    ∃(a:Option Addr) (n c:Nat) (rows:List (List At)),v= .slice a n c∧(a.isSome=true∨n=0)∧n≤c∧c≤maxLen∧n*P.bytesOf e≤reachBytes∧rows.length=n∧(∀as∈rows,ziy fls as∧as.length=fls.length)∧
     ∀i as,rows[i]?=some as→ ∀j x,as[j]?=some x→w.cell? (((a.getD ⟨0,0,none⟩).add (i*fls.length)).add j)=some x.val:=by
  obtain ⟨fuel,hf⟩:=h
  obtain ⟨a',n',c',rfl⟩:=hv
  rcases DataW.trod_slice hu hf with ⟨h1,_⟩|⟨a,len,cap,elems,rest,n,_,hcs,hx,hb,hl,hm,hlen,hel,_,_⟩
  ·simp [Value.cells] at h1
   obtain ⟨rfl,rfl,rfl⟩:=h1
   exact ⟨none,0,0,[],rfl,.inr rfl,Nat.le_refl _,Nat.zero_le _,by simp,rfl,fun as h=>by simp at h,fun i as h=>by simp at h⟩
  ·simp [Value.cells] at hcs
   obtain ⟨rfl,rfl,rfl⟩:=hcs
   cases hx
   simp only [DataW.weights,hu] at hw
   have hwe: ∀(i:Nat) (x:DataW H×List MemPlace),elems[i]?=some x→ ∀m∈x.1.weights P e,m≤reachBytes:=fun i x hi m hm=>by
     refine hw m (List.mem_cons_of_mem _ (List.mem_append_left _ ?_))
     have hmem:x.1∈elems.map (·.1):=List.mem_map_of_mem (List.mem_of_getElem? hi)
     clear hw hel hlen hi
     generalize elems.map (·.1)=l at hmem
     induction l with
     |nil=>cases hmem
     |cons y l ih=>
      simp only [DataW.weightsAll,List.mem_append]
      rcases List.mem_cons.1 hmem with rfl|hmem
      ·exact .inl hm
      ·exact .inr (ih hmem)
   have hone: ∀i,i<elems.length→ ∃as,ziy fls as∧as.length=fls.length∧ ∀j x,as[j]?=some x→w.cell? ((a.add (i*fls.length)).add j)=some x.val:=fun i hi=>by
     have h2:=hel i (by omega)
     obtain ⟨x,hx⟩: ∃x,elems[i]?=some x:=⟨_,List.getElem?_eq_getElem hi⟩
     rw [hx,hes] at h2
     obtain ⟨cs,h3,h4⟩:=Option.bind_eq_some_iff.1 h2
     obtain ⟨as,h5,h6⟩:=z3m he h4 (hwe i x hx)
     subst h5
     unfold World.cells? at h3
     split at h3
     ·have hcl: ∀(m:Nat) (L:List Value),((List.range m).mapM fun k=>w.cell? ((a.add (i*fls.length)).add k))=some L→L.length=m∧ ∀k v,L[k]?=some v→w.cell? ((a.add (i*fls.length)).add k)=some v:=by
        intro m L hL
        exact z37 hL
      obtain ⟨g1,g2⟩:=hcl _ _ h3
      refine ⟨as,h6,by simpa using g1,fun j x hj=>g2 j x.val (by rw [List.getElem?_map,hj];rfl)⟩
     ·cases h3
   obtain ⟨F,hF⟩:=Go.Deep.choose_lt (α:=List At) hone
   refine ⟨some a,n',c',(List.range n').map F,rfl,.inl rfl,hl,hm,?_,by simp,?_,?_⟩
   ·have h8:=hw _ (List.mem_cons_self ..)
    simp only [List.length_map] at h8
    have h9:elems.length*P.bytesOf e≤(elems.length+rest.length)*P.bytesOf e:=Nat.mul_le_mul_right _ (Nat.le_add_right _ _)
    rw [hlen] at h8 h9
    omega
   ·intro as hm
    obtain ⟨i,hi,rfl⟩:=List.mem_map.1 hm
    have h7:=hF i (by have:=List.mem_range.1 hi;omega)
    exact ⟨h7.1,h7.2.1⟩
   ·intro i as hi j x hj
    rw [List.getElem?_map] at hi
    obtain ⟨k,hk,rfl⟩:=Option.map_eq_some_iff.1 hi
    obtain ⟨hk1,hk2⟩:=List.getElem?_eq_some_iff.1 hk
    simp at hk1 hk2
    subst hk2
    exact (hF i (by omega)).2.2 j x hj
theorem z2a {ty:List (Nat×TyI)} {fs:List (Nat×Spec)} (ht: ∀t i,y8 ty t=some i→yt P t i) (hfs: ∀f S,y8 fs f=some S→zp P f S) {rs:List Row} (hrs: ∀r∈rs,RowOK P w r) (hpos: ∀r∈rs,0<r.es)
    (hm:P.follows .mixedOrders=true) {f:FuncId} {fn:Func} {c:Code} (hf:P.funcs[f]?=some fn) (hb:fn.body=some c) {D:List (Nat×List PStep)} {args:List SV}
    (hl:args.length≤fn.ntmps) (hargs:okL (fun _=>False) args)
    (hv:zzl {nt:=fn.ntmps,ty:=ty,fn:=fs,E:=fun w'=>Ext (fun _=>False) w w',ext:=zeq rs} D c fn.results.toList args [] fun r _=>r= .bool true):
    Calls P f (xf (fun _=>0) args).toArray w fun e w'=>e= .returned (.bool true)∧Below w.heap.size w w':=by
  have hΓ:CtxOK P {nt:=fn.ntmps,ty:=ty,fn:=fs,E:=fun w'=>Ext (fun _=>False) w w',ext:=zeq rs}:=⟨ht,hfs,fun a t v h=>by
    obtain ⟨h1,h2⟩:=z6h hrs hpos a t v h
    exact ⟨h1,fun ρ w' hx=>h2 ρ w' hx⟩⟩
  have hfoot: ∀b,¬zgq (fun _=>0) [] b:=fun b ⟨k,el,ps,hk,_⟩=>by simp at hk
  have hE: ∀w',Ext (zgq (fun _=>0) []) w w'→Ext (fun _=>False) w w':=fun w' hx=>⟨hx.size,fun b hb _=>hx.keep b hb (hfoot b),hx.os,hx.out,hx.tape⟩
  refine (zzy hΓ hm hf hb rfl hl hv (ρ:=fun _=>0) (w:=w) (fun w' hx=>hE w' hx) ⟨fun k el ps hk=>by simp at hk,fun k k' el ps el' ps' hk=>by simp at hk⟩ ?_).mono fun e w' ⟨r,ρ',hp',he,hr,_,hst⟩=>?_
  ·exact yz (fun _ h=>h.elim) _ hargs
  ·subst hr
   refine ⟨he,hst.ext.os,hst.ext.tape,hst.ext.out,hst.ext.size,fun k hk=>hst.ext.keep k hk (hfoot k)⟩
end
end Go.Sym
