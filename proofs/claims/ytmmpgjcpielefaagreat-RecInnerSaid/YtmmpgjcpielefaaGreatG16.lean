/-
  The symbolic engine, part 27: a law's end: rows of data that lie outside, and the statement's own readings. No program in sight; no condition beyond each lemma's own.
-/
import Derived.Test.YtmmpgjcpielefaaGreatG15
import Derived.WalkKit
import Derived.ProofKit
import Derived.OpenShut
import Derived.ShutString
import Derived.ChangeOld
import Derived.Below
import Derived.SizedLaws
import Derived.ChangeArms
import Derived.Deep.Slices
set_option linter.unusedSimpArgs false
set_option linter.unusedVariables false
namespace Go.Sym
open Go.ChangeShapes Go.WideShapes Go.ChangeAt Go.RowKit
def zk9 (fn:Func):Code:=match fn.body with|some c=>c|none=> .skip
inductive Fl where
  |b|i|s
  deriving DecidableEq
section
variable {H:Type} {enc:TypeId×Value→H} {P:Program} {w:World} {base:Nat} {sp:Nat→Bool} {held:Bool}
def zxy (one:Bool) (as:List At):SV:=
  match one,as with
  |true,[a]=>a.sv
  |_,as=> .agg (as.map At.sv)
structure Row where
  t:TypeId
  a:Addr
  es:Nat
  one:Bool
  rows:List (List At)
def zl7 (rs:List Row) (a:Addr) (t:TypeId) (v:SV):Prop:= ∃r∈rs,∃(i:Nat) (as:List At),t=r.t∧a=r.a.add (i*r.es)∧r.rows[i]?=some as∧v=zxy r.one as
structure RowOK (P:Program) (w:World) (r:Row):Prop where
  ty: ∃(ti:TyI),yx P r.t ti∧ti.sz=r.es∧((r.one=true∧ti.d.agg=false∧r.es=1)∨(r.one=false∧ti.d.agg=true))
  len: ∀as∈r.rows,as.length=r.es
  cell: ∀i as,r.rows[i]?=some as→ ∀j a,as[j]?=some a→(w.cell? ((r.a.add (i*r.es)).add j))=some a.val
theorem At.sv_den (ρ:Nat→Nat) (a:At):a.sv.den ρ=a.val:=by cases a<;>rfl
theorem At.sv_cells (ρ:Nat→Nat) (a:At):a.sv.cells ρ= [a.val]:=by cases a<;>rfl
theorem zzx (p:Nat→Prop): ∀as:List At,okL p (as.map At.sv)
  | []=>trivial
  |a ::as=>⟨a.sv_ok,zzx p as⟩
theorem zi0 (ρ:Nat→Nat): ∀as:List At,zr ρ (as.map At.sv)=as.map At.val
  | []=>rfl
  |a ::as=>by simp only [List.map_cons,zr,At.sv_cells,zi0 ρ as];rfl
theorem Addr.add_none {a:Addr} {i:Nat} {w:World} {v:Value} (h:w.cell? (a.add i)=some v):(a.add i).spot=none∧ ∃c el fz,w.heap[(a.add i).block]?=some (.cells c el fz)∧c[(a.add i).off]?=some v:=by
  unfold World.cell? at h
  split at h
  ·rename_i c el fz hc
   split at h
   ·cases h
   ·rename_i hs
    refine ⟨by simpa using hs,c,el,fz,hc,h⟩
  ·cases h
theorem z3k {rs:List Row} (hrs: ∀r∈rs,RowOK P w r) (hpos: ∀r∈rs,0<r.es) (a:Addr) (t:TypeId) (v:SV) (h:zl7 rs a t v):
    v.ok (fun _=>False)∧ ∀(ρ:Nat→Nat) w',Ext (fun _=>False) w w'→(loadVar t a).run P w'= .ok (v.den ρ) w':=by
  obtain ⟨r,hr,i,as,rfl,rfl,hi,rfl⟩:=h
  obtain ⟨⟨ti,hti,hsz,hone⟩,hlen,hcell⟩:=hrs r hr
  have hl:as.length=r.es:=hlen as (List.mem_of_getElem? hi)
  have hp:=hpos r hr
  obtain ⟨a0,ha0⟩: ∃a0,as[0]?=some a0:=⟨as[0]'(by omega),List.getElem?_eq_getElem (by omega)⟩
  have hadd0: ∀b:Addr,b.add 0=b:=fun b=>by simp [Addr.add]
  have h0:=hcell i as hi 0 a0 ha0
  rw [hadd0] at h0
  obtain ⟨hspot,c,el,fz,hblk,hoff⟩:=Addr.add_none h0
  generalize hb:r.a.add (i*r.es)=b at*
  obtain ⟨blk,o,spot⟩:=b
  simp only at hspot hblk hoff
  subst hspot
  refine ⟨?_,fun ρ w' hx=>?_⟩
  ·unfold zxy
   split
   ·exact At.sv_ok _
   ·exact zzx _ _
  ·have hblk':w'.heap[blk]?=some (.cells c el fz):=by
     rw [hx.keep blk (Array.getElem?_eq_some_iff.1 hblk).1 (fun h=>h)];exact hblk
   refine zfi (L:=c.toList) hti (fun i=>by unfold World.cell?;rw [hblk'];simp) ?_
   have hat: ∀j x,as[j]?=some x→c.toList[o+j]?=some x.val:=fun j x hj=>by
     have:=hcell i as hi j x hj
     rw [hb] at this
     unfold World.cell? at this
     by_cases hj0:j=0
     ·subst hj0;rw [hadd0] at this;rw [hblk] at this;simpa using this
     ·have e:(⟨blk,o,none⟩:Addr).add j=⟨blk,o+j,none⟩:=by simp [Addr.add,hj0]
      rw [e] at this;simp only [hblk] at this;simpa using this
   rcases hone with ⟨h1,h2,h3⟩|⟨h1,h2⟩
   ·refine .inl ⟨h2,?_⟩
    rw [h3] at hl
    obtain ⟨x,rfl⟩: ∃x,as= [x]:=by
      cases as with
      |nil=>simp at hl
      |cons x r=>cases r with
       |nil=>exact ⟨x,rfl⟩
       |cons y r=>simp at hl
    ·rw [h1]
     exact ⟨At.sv_scalar x,by have:=hat 0 x (by first|rfl|simp);rw [Nat.add_zero] at this;rw [this];exact congrArg some (At.sv_den ρ x).symm⟩
   ·refine .inr ⟨h2,?_⟩
    have e:zxy r.one as= .agg (as.map At.sv):=by rw [h1];rfl
    rw [e]
    refine ⟨rfl,?_,fun j hj=>?_⟩
    ·simp only [SV.cells,zi0,List.length_map,hl,hsz]
    ·simp only [SV.cells,zi0]
     obtain ⟨x,hx'⟩: ∃x,as[j]?=some x:=⟨as[j]'(by omega),List.getElem?_eq_getElem (by omega)⟩
     rw [hat j x hx',List.getElem?_map,hx'];rfl
theorem zqj {ty:List (Nat×TyI)} {fs:List (Nat×Spec)} (ht: ∀t i,y9 ty t=some i→yx P t i) (hfs: ∀f S,y9 fs f=some S→zm P f S) {rs:List Row} (hrs: ∀r∈rs,RowOK P w r) (hpos: ∀r∈rs,0<r.es)
    (hm:P.follows .mixedOrders=true) {f:FuncId} {fn:Func} {c:Code} (hf:P.funcs[f]?=some fn) (hb:fn.body=some c) {D:List (Nat×List PStep)} {args:List SV}
    (hl:args.length≤fn.ntmps) (hargs:okL (fun _=>False) args)
    (hv:zs0 {nt:=fn.ntmps,ty:=ty,fn:=fs,E:=fun w'=>Ext (fun _=>False) w w',ext:=zl7 rs} D c fn.results.toList args [] fun r _=>r= .bool true):
    Calls P f (xc (fun _=>0) args).toArray w fun e w'=>e= .returned (.bool true)∧Below w.heap.size w w':=by
  have hΓ:CtxOK P {nt:=fn.ntmps,ty:=ty,fn:=fs,E:=fun w'=>Ext (fun _=>False) w w',ext:=zl7 rs}:=⟨ht,hfs,fun a t v h=>by
    obtain ⟨h1,h2⟩:=z3k hrs hpos a t v h
    exact ⟨h1,fun ρ w' hx=>h2 ρ w' hx⟩⟩
  have hfoot: ∀b,¬zgm (fun _=>0) [] b:=fun b ⟨k,el,ps,hk,_⟩=>by simp at hk
  have hE: ∀w',Ext (zgm (fun _=>0) []) w w'→Ext (fun _=>False) w w':=fun w' hx=>⟨hx.size,fun b hb _=>hx.keep b hb (hfoot b),hx.os,hx.out,hx.tape⟩
  refine (zyx hΓ hm hf hb rfl hl hv (ρ:=fun _=>0) (w:=w) (fun w' hx=>hE w' hx) ⟨fun k el ps hk=>by simp at hk,fun k k' el ps el' ps' hk=>by simp at hk⟩ ?_).mono fun e w' ⟨r,ρ',hp',he,hr,_,hst⟩=>?_
  ·exact yr (fun _ h=>h.elim) _ hargs
  ·subst hr
   refine ⟨he,hst.ext.os,hst.ext.tape,hst.ext.out,hst.ext.size,fun k hk=>hst.ext.keep k hk (hfoot k)⟩
end
end Go.Sym
