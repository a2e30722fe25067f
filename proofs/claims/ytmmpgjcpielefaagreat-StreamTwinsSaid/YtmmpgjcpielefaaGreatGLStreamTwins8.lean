/-
  The symbolic engine, part 11: operations that make or write memory; calls. No program in sight; no condition beyond each lemma's own.
-/
import Derived.Test.YtmmpgjcpielefaaGreatGLStreamTwins7
set_option linter.unusedSimpArgs false
set_option linter.unusedVariables false
namespace Go.Sym
section
variable {P:Program} {Γ:Ctx} {ρ:Nat→Nat} {hp:List Blk} {w:World}
def Mem (P:Program) (ρ:Nat→Nat) (hp:List Blk) (w:World) (K:SV→List Blk→Prop) (s:Sem Value):Prop:=
  ∃v ρ' hp' w',s.run P w= .ok (v.den ρ') w'∧v.ok (· <hp'.length)∧Step ρ hp w ρ' hp' w'∧K v hp'
theorem zji (n c:Nat) (b:Blk):(SV.sl hp.length 0 0 [] n c).ok (· <(hp++ [b]).length):=by simp [SV.ok]
theorem zhc (n c b:Nat):(SV.sl hp.length 0 0 [] n c).den (zfr ρ hp.length b)= .slice (some ⟨b,0,none⟩) n c:=by simp [SV.den,xj,off]
theorem zh1 (e:TypeId) (l:List UInt8) (w:World): ∃(m:Nat) (w':World),
    (Conv.stringToBytes e ⟨l.toArray⟩).run P w= .ok (.slice (some ⟨w.heap.size,0,none⟩) l.length (l.length+m)) w'∧
    w'.heap=w.heap.push (.cells (c8 (l++List.replicate m 0)).toArray e (l.length+m,l.length+m+1))∧w'.os=w.os∧w'.output=w.output∧w'.tape=w.tape:=by
  have hs:(⟨l.toArray⟩:ByteArray).size=l.length:=by simp [ByteArray.size]
  unfold Conv.stringToBytes
  simp only [Sem.run_bind,run_choose,hs]
  have hnf:(Question.appendCap l.length 0 e).forced=false:=rfl
  simp only [hnf,Bool.false_eq_true,if_false,Result.andThen_ok,Question.cut]
  generalize w.tape w.drawn (Question.appendCap l.length 0 e)%(2^63-l.length)=m
  have e1:l.length+m-l.length=m:=by omega
  have e2:(Array.map (fun b=>Value.int IntKind.u8 ↑(UInt8.toNat b)) (⟨l.toArray⟩:ByteArray).data++Array.replicate (l.length+m-l.length) (Value.int .u8 0))=(c8 (l++List.replicate m 0)).toArray:=by
    rw [e1];apply Array.ext';simp [c8]
  rw [e2]
  simp only [newRow,Sem.run_bind,run_newObj,Result.andThen_ok,Sem.run_pure,markStringish,run_shape,World.shape?]
  simp only [Array.getElem?_push,if_pos]
  refine ⟨m,_,rfl,?_,rfl,rfl,rfl⟩
  have hlen:(c8 (l++List.replicate m 0)).toArray.size=l.length+m:=by simp [c8]
  have hne: ¬(1=0):=by omega
  simp only [run_freeze,World.freeze,hne,if_false,hlen]
  apply Array.ext_getElem?
  intro x
  rw [Array.getElem?_modify]
  by_cases hx:w.heap.size=x
  ·subst hx;simp
  ·have hx': ¬x=w.heap.size:=fun e=>hx e.symm
   simp only [hx,hx',if_false,Array.getElem?_push]
theorem yp.under {t:TypeId} {ti:TyI} (h:yp P t ti): ∃d,P.underlying t=some d:=by
  have hu:=h.2.2.1
  cases hd:ti.d<;>rw [hd] at hu<;>simp only at hu
  case ptr=>obtain ⟨e,hu⟩:=hu;exact ⟨_,hu⟩
  case struct=>obtain ⟨e,hu,_⟩:=hu;exact ⟨_,hu⟩
  case func=>obtain ⟨a,b,c,hu⟩:=hu;exact ⟨_,hu⟩
  case iface=>obtain ⟨e,hu⟩:=hu;exact ⟨_,hu⟩
  case other=>obtain ⟨e,hu,_⟩:=hu;exact ⟨_,hu⟩
  all_goals exact ⟨_,hu⟩
theorem Mem.same (hr:HpRel ρ hp w) {v:SV} {K:SV→List Blk→Prop} {s:Sem Value} (hv:v.ok (· <hp.length)) (hk:K v hp) (hs:s.run P w= .ok (v.den ρ) w):Mem P ρ hp w K s:=
  ⟨v,ρ,hp,w,hs,hv,Step.refl hr,hk⟩
theorem z3u (hΓ:CtxOK P Γ) (hr:HpRel ρ hp w) {s d:TypeId} {x:SV} {K:SV→List Blk→Prop} (h:z2k Γ s d x hp K):
    Mem P ρ hp w K (convert s d (x.den ρ)):=by
  unfold z2k at h
  have hh:=z6 h;clear h;obtain ⟨si,hs,h⟩:=hh
  have hS:=hΓ.ty s si hs
  obtain ⟨ds,hds⟩:=hS.under
  have hh:=z6 h;clear h;obtain ⟨di,hd,h⟩:=hh
  have hD:=hΓ.ty d di hd
  have hu:=hD.2.2.1
  split at h
  ·rename_i kd hdd
   rw [hdd] at hu
   obtain ⟨sk,n,hn,v,hk,hok,hrun⟩:=zk2 (P:=P) (ρ:=ρ) h
   refine Mem.same hr (hok _) hk ?_
   rw [hn]
   unfold convert
   simp only [Sem.run_bind,run_underlying hds,run_underlying hu,Result.andThen_ok,hrun]
  ·rename_i hdd
   rw [hdd] at hu
   split at h
   ·rename_i l
    refine Mem.same (v:= .str l) hr trivial h ?_
    unfold convert
    simp only [Sem.run_bind,run_underlying hds,run_underlying hu,Result.andThen_ok,SV.den]
    cases ds<;>rfl
   ·split at h
    ·rename_i e he
     have hsu:=hS.2.2.1
     rw [he] at hsu
     have hh:=z6 h;clear h;obtain ⟨ei,hei,h⟩:=hh
     have hE:=(hΓ.ty e ei hei).2.2.1
     split at h
     ·rename_i h8
      rw [h8] at hE
      refine Mem.same (v:= .str []) hr trivial h ?_
      unfold convert
      simp only [Sem.run_bind,run_underlying hsu,run_underlying hu,Result.andThen_ok,SV.den,run_underlying hE]
      rfl
     ·exact h.elim
    ·exact h.elim
   ·rename_i k j b o n c
    split at h
    ·rename_i e he
     have hsu:=hS.2.2.1
     rw [he] at hsu
     have hh:=z6 h;clear h;obtain ⟨ei,hei,h⟩:=hh
     have hE:=(hΓ.ty e ei hei).2.2.1
     split at h
     ·rename_i h8
      rw [h8] at hE
      obtain ⟨l,h,_,hl⟩:=zij (P:=P) hr h
      obtain ⟨_,_,h3⟩:=hl w (fun _=>rfl)
      refine Mem.same (v:= .str l) hr trivial h ?_
      have h3':=h3 (fun s hs=>by cases hs)
      unfold convert
      simp only [SV.den] at h3' ⊢
      simp only [Sem.run_bind,run_underlying hsu,run_underlying hu,Result.andThen_ok,run_underlying hE,h3']
     ·exact h.elim
    ·exact h.elim
   ·exact h.elim
  ·rename_i e hdd
   rw [hdd] at hu
   split at h
   ·rename_i l
    have hh:=z6 h;clear h;obtain ⟨ei,hei,h⟩:=hh
    have hE:=(hΓ.ty e ei hei).2.2.1
    split at h
    ·rename_i h8
     rw [h8] at hE
     obtain ⟨m,w',h1,h2,h3,h4,h5⟩:=zh1 (P:=P) e l w
     have hh:=xp h (List.replicate m 0);clear h;have h:=hh;clear hh
     have hh:=zmx h;clear h;have h:=hh;clear hh
     have hc:zq ρ [SV.arr8 (l.length+(List.replicate m (0:UInt8)).length) (l++List.replicate m 0)]=c8 (l++List.replicate m 0):=by simp [zq,SV.cells]
     refine ⟨_,zfr ρ hp.length w.heap.size,_,w',?_,zji _ _ _,Step.alloc (el0:=e) (fz:=(l.length+m,l.length+m+1)) hr (ps:= [SV.arr8 (l.length+(List.replicate m (0:UInt8)).length) (l++List.replicate m 0)]) ⟨by simp [SV.ok],trivial⟩ (by rw [hc];exact h2) (by rw [hc];simp [c8]) h3 h4 h5,h⟩
     rw [zhc]
     unfold convert
     simp only [Sem.run_bind,run_underlying hds,run_underlying hu,Result.andThen_ok,SV.den]
     have: ∀ds:TypeDesc,(match ds,TypeDesc.slice e,Value.string ⟨l.toArray⟩ with
       |_,.int k,.int _ n=>Conv.intToInt k n
       |_,.float k,.int _ n=>Conv.intToFloat k n
       |_,.int k,.float s b=>Conv.floatToInt s b k
       |_,.float k,.float s b=>Conv.floatToFloat s b k
       |_,.complex k,.complex s a b=>Conv.complexToComplex s a b k
       |_,.string,.int _ n=>Conv.intToString n
       |_,.string,.string _=>pure (Value.string ⟨l.toArray⟩)
       |_,.slice e,.string s=>(do
        match ←underlying e with
        | .int .u8=>Conv.stringToBytes e s
        | .int .i32=>Conv.stringToRunes e s
        |_=>stuck "Convert: string to a slice of what?" :Sem Value)
       |_,_,_=>unsupported (.noEntry "convert/other"))=(do
        match ←underlying e with
        | .int .u8=>Conv.stringToBytes e ⟨l.toArray⟩
        | .int .i32=>Conv.stringToRunes e ⟨l.toArray⟩
        |_=>stuck "Convert: string to a slice of what?" :Sem Value):=fun ds=>rfl
     simp only [List.length_replicate]
     rw [←h1]
     cases ds<;>simp only [Sem.run_bind,run_underlying hE,Result.andThen_ok]
    ·exact h.elim
   ·exact h.elim
  ·exact h.elim
theorem z4p (hΓ:CtxOK P Γ) (hr:HpRel ρ hp w) {t ty:TypeId} {ats:List TypeId} {d s:SV} (hd:d.ok (· <hp.length)) {K:SV→List Blk→Prop} (h:zzx Γ t d s hp K):
    Mem P ρ hp w K (Builtin.copy_ (t ::ats).toArray ty #[d.den ρ,s.den ρ]):=by
  unfold zzx at h
  have hh:=z6 h;clear h;obtain ⟨ti,ht,h⟩:=hh
  have hT:=hΓ.ty t ti ht
  have hu:=hT.2.2.1
  split at h
  ·rename_i e hdd
   rw [hdd] at hu
   have hh:=z6 h;clear h;obtain ⟨ei,he,h⟩:=hh
   have hE:=hΓ.ty e ei he
   split at h
   ·rename_i hsz
    have hsz:=Nat.eq_of_beq_eq_true hsz
    have hh:=zij (P:=P) hr h;clear h;obtain ⟨l,h,_,hl⟩:=hh
    obtain ⟨hl1,hl2,_⟩:=hl w (fun _=>rfl)
    split at h
    ·refine Mem.same (v:= .int 0) hr trivial h ?_
     unfold Builtin.copy_
     have hm:Nat.min l.length 0=0:=Nat.min_zero _
     have hu':P.underlying t=some (.slice e):=hu
     simp only [SV.den,List.getElem?_toArray,List.getElem?_cons_zero,show ∀x y:Value,(#[x,y]:Array Value)[0]?=some x from fun _ _=>rfl,show ∀x y:Value,(#[x,y]:Array Value)[1]?=some y from fun _ _=>rfl]
     simp only [Sem.run_bind,run_underlying hu',Result.andThen_ok,hl1,hm,yg hE,hsz,hl2 0 (by omega),Sem.run_pure]
     rfl
    ·rename_i k j b o n c
     have hh:=zbk h;clear h;obtain ⟨el,ps,hk,h⟩:=hh
     have hh:=zdm h;clear h;obtain ⟨a,r,hps,hb,h⟩:=hh
     split at h
     ·rename_i m L r'
      have hh:=zm h;clear h;obtain ⟨h1,h⟩:=hh
      have hh:=zdf (zd9 h);clear h;obtain ⟨hkl,h⟩:=hh
      obtain ⟨hok,el0,fz,hblk,hfz⟩:=hr.mem k el ps hk
      rw [hps] at hok hblk hfz
      obtain ⟨hoa,hor⟩:=y9.1 hok
      have hla:(zq ρ a).length=b:=by rw [xc ρ a hoa,hb]
      have hLm:L.length=m:=hor.1
      have hlen:(l.take (min l.length n)).length=min l.length n:=by simp
      have hw:zhq (c8 L) (off o) (c8 (l.take (min l.length n))) (c8 (zw L (off o) (l.take (min l.length n)))):=zbv _ (fun _=>rfl) L _ _ (by rw [hlen];exact h1)
      have hcl:(c8 (l.take (min l.length n))).length=min l.length n:=by simp [c8]
      have hst:=xm (P:=P) (b:=ρ k) (s:=b+off o) (el:=el0) (fz:=fz) (c8 (l.take (min l.length n))) 0 (zq ρ (a++SV.arr8 m L ::r')) w hblk hfz (by
        rw [yd];simp only [zq,SV.cells,List.length_append,hcl];have hcL:(c8 L).length=L.length:=by simp [c8]
        omega) hw.2.2
      have hsp:zw (zq ρ (a++SV.arr8 m L ::r')) (b+off o+0) (c8 (l.take (min l.length n)))=zq ρ (a++SV.arr8 m (zw L (off o) (l.take (min l.length n))) ::r'):=by
        rw [yd,yd,Nat.add_zero,←hla]
        simp only [zq,SV.cells]
        rw [zeo _ _ _ _ _ hw.2.1,←hw.1]
      rw [hsp] at hst
      have hok':okL (· <hp.length) (a++SV.arr8 m (zw L (off o) (l.take (min l.length n))) ::r'):=
        y9.2 ⟨hoa,by simp only [SV.ok];rw [y6 _ _ _ (by rw [hlen];exact h1)];exact hLm,hor.2⟩
      have hlenc:(zq ρ (a++SV.arr8 m (zw L (off o) (l.take (min l.length n))) ::r')).length=(zq ρ (a++SV.arr8 m L ::r')).length:=by
        rw [←hsp,y6 _ _ _ (by
         rw [yd];simp only [zq,SV.cells,List.length_append,hcl];have:(c8 L).length=L.length:=by simp [c8]
         omega)]
      refine ⟨.int (min l.length n:Nat),ρ,_,_,?_,trivial,Step.write (el0:=el0) (fz:=fz) hr hk hok' (by rw [hlenc];exact hfz),h⟩
      unfold Builtin.copy_
      have hm:Nat.min l.length n=min l.length n:=rfl
      have hu':P.underlying t=some (.slice e):=hu
      simp only [List.getElem?_toArray,List.getElem?_cons_zero,show ∀x y:Value,(#[x,y]:Array Value)[0]?=some x from fun _ _=>rfl,show ∀x y:Value,(#[x,y]:Array Value)[1]?=some y from fun _ _=>rfl,SV.den]
      simp only [Sem.run_bind,run_underlying hu',Result.andThen_ok,hl1,hm,yg hE,hsz,hl2 (min l.length n) (Nat.min_le_left _ _),hst,Sem.run_pure,goInt]
     ·exact h.elim
    ·exact h.elim
   ·exact h.elim
  ·exact h.elim
theorem znb (v:Value) (n:Nat):Builtin.zeroCells #[v] n=(List.replicate n v).toArray:=by
  unfold Builtin.zeroCells
  apply Array.ext'
  simp
  apply List.ext_getElem?
  intro i
  rcases Nat.lt_or_ge i n with h|h
  ·simp [h,Nat.mod_one]
  ·simp [h]
theorem zer {t u ty e:TypeId} {ei:TyI} {du:TypeDesc} (hu:P.underlying t=some (.slice e)) (hdu:P.underlying u=some du) (hd2:du= .string∨ ∃e',du= .slice e') (hE:yp P e ei) (h1:ei.sz=1)
    (hb:ei.bytes=1) (z:UInt8) (hz:ei.zero= .u8 z) {A:Option Addr} {n c:Nat} {x:Value} {old new:List UInt8} (hx: ∀w',(∀a,w'.cell? a=w.cell? a)→(Builtin.lenOf x).run P w'= .ok new.length w'∧(Builtin.firstCells 1 new.length x).run P w'= .ok (c8 new).toArray w')
    (hold: ∀w',(∀a,w'.cell? a=w.cell? a)→(Builtin.firstCells 1 n (.slice A n c)).run P w'= .ok (c8 old).toArray w') (hgr:c<n+new.length) (hsize:n+new.length≤140737488355328):
    ∃(m:Nat) (w':World),(Builtin.append_ #[t,u] ty #[.slice A n c,x]).run P w= .ok (.slice (some ⟨w.heap.size,0,none⟩) (n+new.length) (n+new.length+m)) w'∧
     w'.heap=w.heap.push (.cells (c8 (old++new++List.replicate m z)).toArray e)∧w'.os=w.os∧w'.output=w.output∧w'.tape=w.tape:=by
  obtain ⟨info,i1,i2,i3,i4⟩:=hE.1
  have hti: ∀w,(typeInfo e).run P w= .ok info w:=fun w=>by simp only [typeInfo,Sem.run_bind,run_program,Result.andThen_ok,i1,Sem.run_pure]
  have hzv: ∀w,(zeroValue e).run P w= .ok (.int .u8 (z.toNat:Int)) w:=fun w=>by rw [zap (ρ:=fun k=>k) hE,hz];rfl
  have hcap: ¬(n+new.length≤c):=by omega
  have hmax: ¬(((n+new.length:Nat):Int)>IntKind.i64.max∧(False∨info.bytes=0)):=by rw [i3,hb];simp
  have hgrow: ¬(Builtin.nextslicecap (n+new.length) c*info.bytes>2^48):=by
    have:=growslice_fits (need:=n+new.length) (old:=c) (bytes:=1) hgr (by omega)
    rw [i3,hb];omega
  have hnf:(Question.appendCap (n+new.length) c e).forced=false:=rfl
  have hxl:=fun w' hw'=>(hx w' hw').1
  have hxc:=fun w' hw'=>(hx w' hw').2
  have hxl0:=hxl w (fun _=>rfl)
  refine ⟨w.tape w.drawn (Question.appendCap (n+new.length) c e)%(2^63-(n+new.length)),?_⟩
  generalize hm:w.tape w.drawn (Question.appendCap (n+new.length) c e)%(2^63-(n+new.length))=m
  refine ⟨({w with drawn:=w.drawn+1}:World).alloc (.cells (c8 (old++new++List.replicate m z)).toArray e),?_,rfl,rfl,rfl,rfl⟩
  have hold':=hold {w with drawn:=w.drawn+1} (fun _=>rfl)
  have hxc':=hxc {w with drawn:=w.drawn+1} (fun _=>rfl)
  have hsub:n+new.length+m-(n+new.length)=m:=by omega
  have hfin:(c8 old).toArray++(c8 new).toArray++(List.replicate m (Value.int .u8 (z.toNat:Int))).toArray=(c8 (old++new++List.replicate m z)).toArray:=by
    apply Array.ext';simp [c8]
  unfold Builtin.append_
  simp only [show ∀x y:Value,(#[x,y]:Array Value)[0]?=some x from fun _ _=>rfl,show ∀x y:Value,(#[x,y]:Array Value)[1]?=some y from fun _ _=>rfl,
    show ∀x y:TypeId,(#[x,y]:Array TypeId)[0]?=some x from fun _ _=>rfl,show ∀x y:TypeId,(#[x,y]:Array TypeId)[1]?=some y from fun _ _=>rfl]
  rcases hd2 with rfl|⟨e',rfl⟩
  all_goals
    simp only [Sem.run_bind,run_underlying hu,run_underlying hdu,Result.andThen_ok,yg hE,h1,Sem.run_pure,Bool.false_eq_true,if_false,hxl0,hcap,hti]
    rw [if_neg hmax]
    simp only [Sem.run_bind,hti,Result.andThen_ok,if_neg hgrow,run_choose,hnf,Bool.false_eq_true,if_false,Question.cut,hm,run_askRoom,hold',Bool.not_false,if_true,hxc',hzv,Sem.run_pure,newRow,run_newObj,Value.cells,hsub,znb,hfin]
    rfl
theorem zew {t u ty e:TypeId} {ei:TyI} {du:TypeDesc} (hu:P.underlying t=some (.slice e)) (hdu:P.underlying u=some du) (hd2:du= .string∨ ∃e',du= .slice e') (hE:yp P e ei) (h1:ei.sz=1)
    {A:Option Addr} {n c:Nat} {x:Value} {new:List UInt8} (hxl:(Builtin.lenOf x).run P w= .ok new.length w) (hxc:(Builtin.firstCells 1 new.length x).run P w= .ok (c8 new).toArray w) (hroom:n+new.length≤c) {w':World}
    (hst: ∀a,A=some a→(storeCells (a.add (n*1)) (c8 new)).run P w= .ok () w') (hnone:A=none→w'=w):
    (Builtin.append_ #[t,u] ty #[.slice A n c,x]).run P w= .ok (.slice A (n+new.length) c) w':=by
  unfold Builtin.append_
  simp only [show ∀x y:Value,(#[x,y]:Array Value)[0]?=some x from fun _ _=>rfl,show ∀x y:Value,(#[x,y]:Array Value)[1]?=some y from fun _ _=>rfl,
    show ∀x y:TypeId,(#[x,y]:Array TypeId)[0]?=some x from fun _ _=>rfl,show ∀x y:TypeId,(#[x,y]:Array TypeId)[1]?=some y from fun _ _=>rfl]
  rcases hd2 with rfl|⟨e',rfl⟩
  all_goals
    simp only [Sem.run_bind,run_underlying hu,run_underlying hdu,Result.andThen_ok,yg hE,h1,Sem.run_pure,Bool.false_eq_true,if_false,hxl,hroom,if_true,Bool.not_false,hxc]
    cases A with
    |none=>rw [hnone rfl];rfl
    |some a=>simp only [Sem.run_bind,hst a rfl,Result.andThen_ok,Sem.run_pure]
theorem zln (L:List Value) (n:Nat):Builtin.zeroCells L.toArray n=((List.replicate n L).flatten).toArray:=by
  unfold Builtin.zeroCells
  apply Array.ext'
  simp only [Array.toList_map,Array.toList_range,List.size_toArray]
  induction n with
  |zero=>simp
  |succ n ih=>
   rw [Nat.succ_mul,List.range_add,List.map_append,ih,List.replicate_succ',List.flatten_append]
   congr 1
   simp only [List.flatten_cons,List.flatten_nil,List.append_nil,List.map_map]
   apply List.ext_getElem?
   intro j
   rw [List.getElem?_map]
   by_cases hj:j<L.length
   ·rw [List.getElem?_range hj,List.getElem?_eq_getElem hj]
    simp only [Option.map_some,Function.comp]
    have e:(n*L.length+j)%L.length=j:=by rw [Nat.add_comm,Nat.add_mul_mod_self_right,Nat.mod_eq_of_lt hj]
    simp [e,hj]
   ·rw [List.getElem?_eq_none (by simp;omega),List.getElem?_eq_none (by omega)];rfl
theorem zg1 {t u ty e e':TypeId} {ei:TyI} (hu:P.underlying t=some (.slice e)) (hdu:P.underlying u=some (.slice e')) (hE:yp P e ei) (hb:1≤ei.bytes)
    {A:Option Addr} {n c nx:Nat} {x:Value} {old new:List Value} (hx: ∀w',(∀a,w'.cell? a=w.cell? a)→(Builtin.lenOf x).run P w'= .ok nx w'∧(Builtin.firstCells ei.sz nx x).run P w'= .ok new.toArray w')
    (hold: ∀w',(∀a,w'.cell? a=w.cell? a)→(Builtin.firstCells ei.sz n (.slice A n c)).run P w'= .ok old.toArray w') (hgr:c<n+nx) (hsize:(n+nx)*ei.bytes≤140737488355328):
    ∃(m:Nat) (w':World),(Builtin.append_ #[t,u] ty #[.slice A n c,x]).run P w= .ok (.slice (some ⟨w.heap.size,0,none⟩) (n+nx) (n+nx+m)) w'∧
     w'.heap=w.heap.push (.cells (old++new++(List.replicate m (ei.zero.cells fun k=>k)).flatten).toArray e)∧w'.os=w.os∧w'.output=w.output∧w'.tape=w.tape:=by
  obtain ⟨info,i1,i2,i3,i4⟩:=hE.1
  have hti: ∀w,(typeInfo e).run P w= .ok info w:=fun w=>by simp only [typeInfo,Sem.run_bind,run_program,Result.andThen_ok,i1,Sem.run_pure]
  have hzv: ∀w,(zeroValue e).run P w= .ok (ei.zero.den fun k=>k) w:=fun w=>zap (ρ:=fun k=>k) hE w
  have hcap: ¬(n+nx≤c):=by omega
  have hmax: ¬(((n+nx:Nat):Int)>IntKind.i64.max∧(False∨info.bytes=0)):=by
    rw [i3];intro h;rcases h.2 with h|h
    ·exact h
    ·omega
  have hgrow: ¬(Builtin.nextslicecap (n+nx) c*info.bytes>2^48):=by
    have:=growslice_fits (need:=n+nx) (old:=c) (bytes:=ei.bytes) hgr hsize
    rw [i3];omega
  have hnf:(Question.appendCap (n+nx) c e).forced=false:=rfl
  have hxl:=fun w' hw'=>(hx w' hw').1
  have hxc:=fun w' hw'=>(hx w' hw').2
  have hxl0:=hxl w (fun _=>rfl)
  refine ⟨w.tape w.drawn (Question.appendCap (n+nx) c e)%(2^63-(n+nx)),?_⟩
  generalize hm:w.tape w.drawn (Question.appendCap (n+nx) c e)%(2^63-(n+nx))=m
  refine ⟨({w with drawn:=w.drawn+1}:World).alloc (.cells (old++new++(List.replicate m (ei.zero.cells fun k=>k)).flatten).toArray e),?_,rfl,rfl,rfl,rfl⟩
  have hold':=hold {w with drawn:=w.drawn+1} (fun _=>rfl)
  have hxc':=hxc {w with drawn:=w.drawn+1} (fun _=>rfl)
  have hsub:n+nx+m-(n+nx)=m:=by omega
  have hzc:(ei.zero.den fun k=>k).cells=(ei.zero.cells fun k=>k).toArray:=zcr _ _
  have hfin:old.toArray++new.toArray++((List.replicate m (ei.zero.cells fun k=>k)).flatten).toArray=(old++new++(List.replicate m (ei.zero.cells fun k=>k)).flatten).toArray:=by
    apply Array.ext';simp
  unfold Builtin.append_
  simp only [show ∀x y:Value,(#[x,y]:Array Value)[0]?=some x from fun _ _=>rfl,show ∀x y:Value,(#[x,y]:Array Value)[1]?=some y from fun _ _=>rfl,
    show ∀x y:TypeId,(#[x,y]:Array TypeId)[0]?=some x from fun _ _=>rfl,show ∀x y:TypeId,(#[x,y]:Array TypeId)[1]?=some y from fun _ _=>rfl]
  simp only [Sem.run_bind,run_underlying hu,run_underlying hdu,Result.andThen_ok,yg hE,Sem.run_pure,Bool.false_eq_true,if_false,hxl0,hcap,hti]
  rw [if_neg hmax]
  simp only [Sem.run_bind,hti,Result.andThen_ok,if_neg hgrow,run_choose,hnf,Bool.false_eq_true,if_false,Question.cut,hm,run_askRoom,hold',Bool.not_false,if_true,hxc',hzv,Sem.run_pure,newRow,run_newObj,hzc,hsub,zln,hfin]
  rfl
theorem zna {t u ty e e':TypeId} {ei:TyI} (hu:P.underlying t=some (.slice e)) (hdu:P.underlying u=some (.slice e')) (hE:yp P e ei)
    {A:Addr} {n c nx:Nat} {x:Value} {new:List Value} (hxl:(Builtin.lenOf x).run P w= .ok nx w) (hxc:(Builtin.firstCells ei.sz nx x).run P w= .ok new.toArray w) (hroom:n+nx≤c) {w':World}
    (hst:(storeCells (A.add (n*ei.sz)) new).run P w= .ok () w'):
    (Builtin.append_ #[t,u] ty #[.slice (some A) n c,x]).run P w= .ok (.slice (some A) (n+nx) c) w':=by
  unfold Builtin.append_
  simp only [show ∀x y:Value,(#[x,y]:Array Value)[0]?=some x from fun _ _=>rfl,show ∀x y:Value,(#[x,y]:Array Value)[1]?=some y from fun _ _=>rfl,
    show ∀x y:TypeId,(#[x,y]:Array TypeId)[0]?=some x from fun _ _=>rfl,show ∀x y:TypeId,(#[x,y]:Array TypeId)[1]?=some y from fun _ _=>rfl]
  simp only [Sem.run_bind,run_underlying hu,run_underlying hdu,Result.andThen_ok,yg hE,Sem.run_pure,Bool.false_eq_true,if_false,hxl,hroom,if_true,Bool.not_false,hxc,hst]
theorem zyq (hΓ:CtxOK P Γ) (hr:HpRel ρ hp w) {t u ty e e':TypeId} {ei:TyI} (hu:P.underlying t=some (.slice e)) (hdu:P.underlying u=some (.slice e')) (hE:yp P e ei) {s x:SV} {K:SV→List Blk→Prop} (h:zkt e ei s x hp K):
    Mem P ρ hp w K (Builtin.append_ #[t,u] ty #[s.den ρ,x.den ρ]):=by
  unfold zkt at h
  split at h
  ·rename_i kx jx bx ox nx cx
   unfold z1t at h
   have hh:=zbk h;clear h;obtain ⟨elx,psx,hkx,h⟩:=hh
   have hh:=zdm h;clear h;obtain ⟨ax,rx,hex,hbx,h⟩:=hh
   split at h
   ·rename_i px rx'
    have hcellx:=fun i=>hr.cell hkx i
    obtain ⟨hokx,_⟩:=hr.mem kx elx psx hkx
    rw [hex] at hokx hcellx
    obtain ⟨hoax,hopx⟩:=y9.1 hokx
    have hlax:(zq ρ ax).length=bx:=by rw [xc ρ ax hoax,hbx]
    have hh:=zot (p:=(· <hp.length)) (ρ:=ρ) h hopx.1;clear h;obtain ⟨new,h,hnok,hfit,hnc,hone⟩:=hh
    have hlen:(((px.cells ρ).drop (off ox)).take (nx*ei.sz)).length=nx*ei.sz:=by rw [List.length_take,List.length_drop];omega
    have hx: ∀w',(∀a,w'.cell? a=w.cell? a)→(Builtin.lenOf ((SV.sl kx jx bx ox nx cx).den ρ)).run P w'= .ok nx w'∧(Builtin.firstCells ei.sz nx ((SV.sl kx jx bx ox nx cx).den ρ)).run P w'= .ok (((px.cells ρ).drop (off ox)).take (nx*ei.sz)).toArray w':=by
      intro w' hw'
      refine ⟨rfl,?_⟩
      simp only [Builtin.firstCells,SV.den]
      have:=xw (P:=P) (w:=w') (b:=ρ kx) (s:=bx+off ox) (L:=zq ρ (ax++px ::rx')) (M:=((px.cells ρ).drop (off ox)).take (nx*ei.sz))
        (fun i=>by rw [hw',hcellx]) (fun i hi=>by
          rw [hlen] at hi
          have hx:off ox+i<(px.cells ρ).length:=by omega
          rw [Nat.add_assoc,List.getElem?_take_of_lt hi,List.getElem?_drop,List.getElem?_eq_getElem hx]
          exact zkl hlax (by rw [List.getElem?_eq_getElem hx]))
      rw [hlen] at this
      exact this
    generalize hNew:((px.cells ρ).drop (off ox)).take (nx*ei.sz)=New at*
    split at h
    ·obtain ⟨⟨h1,hb,hs⟩,h⟩:=zm h
     obtain ⟨m,w',g1,g2,g3,g4,g5⟩:=zg1 (P:=P) (w:=w) (ty:=ty) (A:=none) (n:=0) (c:=0) (old:= []) hu hdu hE hb hx (fun w' _=>by simp [Builtin.firstCells]) (by omega) (by rw [Nat.zero_add];exact hs)
     obtain ⟨tl,h,tok,tc⟩:=zvi (p:=(· <hp.length)) (ρ:=fun k=>k) h hE.2.1.1 hE.2.1.2.2 m
     obtain ⟨r,h,rok,rcl⟩:=zlm h hnok tok
     have h:=zmx h
     have hc:zq ρ [r]=New++(List.replicate m (ei.zero.cells fun k=>k)).flatten:=by
       show r.cells ρ++ []=_
       rw [List.append_nil,rcl,hnc,tc]
     refine ⟨_,zfr ρ hp.length w.heap.size,_,w',?_,zji _ _ _,Step.alloc (el0:=e) (fz:=(0,0)) (ps:= [r]) hr ⟨rok,trivial⟩ (by rw [hc];simpa using g2) (.inl (Nat.le_refl _)) g3 g4 g5,h⟩
     rw [zhc]
     rw [Nat.zero_add] at g1
     exact g1
    ·rename_i k n c
     have hh:=zbk h;clear h;obtain ⟨el,ps,hk,h⟩:=hh
     split at h
     ·rename_i q
      obtain ⟨⟨p1,p2,hb,p3⟩,h⟩:=zm h
      obtain ⟨hok,el0,fz,hblk,hfz⟩:=hr.mem k el _ hk
      have hqok:=hok.1
      have hcells:zq ρ [q]=q.cells ρ:=by show q.cells ρ++ []=_;simp
      rw [hcells] at hblk hfz
      have hql:(q.cells ρ).length=c*ei.sz:=by rw [SV.cells_length ρ q hqok,p2]
      obtain ⟨old,h,ook,ofit,oc,_⟩:=zot (p:=(· <hp.length)) (ρ:=ρ) h hqok
      have oc: ∀ρ',old.cells ρ'=(q.cells ρ).take (n*ei.sz):=fun ρ'=>by rw [oc];rfl
      have hA:(⟨ρ k,0+off [],none⟩:Addr)=⟨ρ k,0,none⟩:=rfl
      have hNl:New.length=nx*ei.sz:=hlen
      by_cases hroom:n+nx≤c
      ·obtain ⟨tl,h,tok,tc⟩:=z4s (p:=(· <hp.length)) (ρ:=ρ) h hqok p2 hroom
       obtain ⟨r1,h,r1ok,r1c⟩:=zlm h ook hnok
       obtain ⟨r,h,rok,rcl⟩:=zlm h r1ok tok
       obtain ⟨hkl,hh⟩:=zdf h
       have h:=zdh (zby hh)
       have hmul:(n+nx)*ei.sz=n*ei.sz+nx*ei.sz:=Nat.add_mul _ _ _
       have hrc: ∀ρ',r.cells ρ'=zw (q.cells ρ) (n*ei.sz) New:=fun ρ'=>by
         rw [rcl,r1c,oc,hnc,tc,hmul];unfold zw;rw [hNl]
       have hle:n*ei.sz+nx*ei.sz≤c*ei.sz:=by rw [←hmul];exact Nat.mul_le_mul_right _ hroom
       have hst:=xm (P:=P) (b:=ρ k) (s:=n*ei.sz) (el:=el0) (fz:=fz) New 0 (q.cells ρ) w hblk hfz (by rw [hNl,hql];omega) (by
         intro v hv
         exact hone v (by rw [hnc];exact hv))
       have hsp:zw (q.cells ρ) (n*ei.sz+0) New=r.cells ρ:=by rw [Nat.add_zero,hrc]
       rw [hsp] at hst
       have hcn:zq ρ [r]=r.cells ρ:=by show r.cells ρ++ []=_;simp
       have hls:(r.cells ρ).length=(q.cells ρ).length:=by rw [hrc];exact y6 _ _ _ (by rw [hNl,hql];omega)
       have st1:=Step.write (el0:=el0) (fz:=fz) hr hk (ps':= [r]) ⟨rok,trivial⟩ (by rw [hcn,hls];exact hfz)
       have st2:=Step.move (el':=e) st1.rel (k:=k) (List.getElem?_set_self hkl)
       have st:=st1.trans st2
       have hset:(hp.set k (Blk.mk el [r])).set k Blk.dead=hp.set k Blk.dead:=by simp
       rw [hset,List.length_set] at st
       have hcc:n+nx+(c-(n+nx))=c:=by omega
       rw [hcc] at h
       refine ⟨_,_,_,_,?_,by simp [SV.ok],st,h⟩
       have hd:(SV.sl hp.length 0 0 [] (n+nx) c).den (zfr ρ hp.length (ρ k))= .slice (some ⟨ρ k,0,none⟩) (n+nx) c:=by simp [SV.den,xj,off]
       rw [hd]
       have:=zna (P:=P) (w:=w) (ty:=ty) (A:=⟨ρ k,0,none⟩) (n:=n) (c:=c) hu hdu hE (hx w (fun _=>rfl)).1 (hx w (fun _=>rfl)).2 hroom (w':=World.putAt w (ρ k) (.cells (r.cells ρ).toArray el0 fz)) (by rw [zb4,Nat.zero_add];exact hst)
       rw [show (SV.sl k 0 0 [] n c).den ρ= .slice (some ⟨ρ k,0,none⟩) n c from rfl,this,hcn]
      ·have hold: ∀w',(∀a,w'.cell? a=w.cell? a)→(Builtin.firstCells ei.sz n (.slice (some ⟨ρ k,0,none⟩) n c)).run P w'= .ok ((q.cells ρ).take (n*ei.sz)).toArray w':=by
         intro w' hw'
         simp only [Builtin.firstCells]
         have hol:((q.cells ρ).take (n*ei.sz)).length=n*ei.sz:=by
           rw [List.length_take,hql];exact Nat.min_eq_left (Nat.mul_le_mul_right _ p1)
         have:=xw (P:=P) (w:=w') (b:=ρ k) (s:=0) (L:=q.cells ρ) (M:=(q.cells ρ).take (n*ei.sz)) (fun i=>by rw [hw',hr.cell hk i,hcells]) (fun i hi=>by
           rw [hol] at hi
           rw [Nat.zero_add,List.getElem?_take_of_lt hi])
         rw [hol] at this;exact this
       obtain ⟨m',w',g1,g2,g3,g4,g5⟩:=zg1 (P:=P) (w:=w) (ty:=ty) (A:=some ⟨ρ k,0,none⟩) (n:=n) (c:=c) (old:=(q.cells ρ).take (n*ei.sz)) hu hdu hE hb hx hold (by omega) p3
       obtain ⟨tl,h,tok,tc⟩:=zvi (p:=(· <hp.length)) (ρ:=fun k=>k) h hE.2.1.1 hE.2.1.2.2 m'
       obtain ⟨r1,h,r1ok,r1c⟩:=zlm h ook hnok
       obtain ⟨r,h,rok,rcl⟩:=zlm h r1ok tok
       obtain ⟨hkl,hh⟩:=zdf h
       have h:=zdh (zby hh)
       have st1:=Step.kill hr k
       have hc: ∀ρ',zq ρ' [r]=(q.cells ρ).take (n*ei.sz)++New++(List.replicate m' (ei.zero.cells fun k=>k)).flatten:=fun ρ'=>by
         show r.cells ρ'++ []=_
         rw [List.append_nil,rcl,r1c,oc,hnc,tc]
       have st2:=Step.alloc (el:=e) (el0:=e) (fz:=(0,0)) (w':=w') (ps:= [r]) st1.rel (by rw [List.length_set];exact ⟨rok,trivial⟩) (by rw [hc];exact g2) (.inl (Nat.le_refl _)) g3 g4 g5
       have st:=st1.trans st2
       rw [List.length_set] at st
       refine ⟨_,_,_,_,?_,by simp [SV.ok],st,h⟩
       have hd:(SV.sl hp.length 0 0 [] (n+nx) (n+nx+m')).den (zfr ρ hp.length w.heap.size)= .slice (some ⟨w.heap.size,0,none⟩) (n+nx) (n+nx+m'):=by simp [SV.den,xj,off]
       rw [hd,show (SV.sl k 0 0 [] n c).den ρ= .slice (some ⟨ρ k,0,none⟩) n c from rfl]
       exact g1
     ·exact h.elim
    ·exact h.elim
   ·exact h.elim
  ·exact h.elim
theorem zxc (hΓ:CtxOK P Γ) (hr:HpRel ρ hp w) {t u ty:TypeId} {s x:SV} {K:SV→List Blk→Prop} (h:zox Γ t u s x hp K):
    Mem P ρ hp w K (Builtin.append_ #[t,u] ty #[s.den ρ,x.den ρ]):=by
  unfold zox at h
  have hh:=z6 h;clear h;obtain ⟨ti,ht,h⟩:=hh
  have hu:=(hΓ.ty t ti ht).2.2.1
  have hh:=z6 h;clear h;obtain ⟨ui,hui,h⟩:=hh
  have hU:=(hΓ.ty u ui hui).2.2.1
  split at h
  ·rename_i e hdd
   rw [hdd] at hu
   have hdu:(∃du,P.underlying u=some du∧(du= .string∨ ∃e',du= .slice e')∧zh2 Γ e s x hp K)∨(∃e' ei,P.underlying u=some (.slice e')∧yp P e ei∧zkt e ei s x hp K):=by
     split at h
     ·rename_i hd;rw [hd] at hU;exact .inl ⟨_,hU,.inl rfl,h⟩
     ·rename_i hd;rw [hd] at hU
      have hh:=z6 h;clear h;obtain ⟨ei,hei,h⟩:=hh
      split at h
      ·exact .inl ⟨_,hU,.inr ⟨_,rfl⟩,h⟩
      ·exact .inr ⟨_,ei,hU,hΓ.ty e ei hei,h⟩
     ·exact h.elim
   clear h
   rcases hdu with ⟨du,hdu,hd2,h⟩|⟨e',ei,hdu,hE,h⟩
   rotate_left
   ·exact zyq hΓ hr hu hdu hE h
   unfold zh2 at h
   have hh:=z6 h;clear h;obtain ⟨ei,hei,h⟩:=hh
   have hE:=hΓ.ty e ei hei
   split at h
   ·rename_i z hz
    split at h
    ·rename_i hb
     have hb:=Nat.eq_of_beq_eq_true hb
     have hsz:ei.sz=1:=by have:=hE.2.1.2.2;rw [hz] at this;exact this.symm
     have hh:=zij (P:=P) hr h;clear h;obtain ⟨new,h,_,hl⟩:=hh
     have hx: ∀w',(∀a,w'.cell? a=w.cell? a)→(Builtin.lenOf (x.den ρ)).run P w'= .ok new.length w'∧(Builtin.firstCells 1 new.length (x.den ρ)).run P w'= .ok (c8 new).toArray w':=
       fun w' hw'=>⟨(hl w' hw').1,by have:=(hl w' hw').2.1 new.length (Nat.le_refl _);rwa [List.take_length] at this⟩
     split at h
     ·by_cases h0:new.length=0
      ·have hk:=(zt h).1 (by simp [h0])
       refine Mem.same (v:= .nilsl) hr trivial hk ?_
       have:=zew (P:=P) (w:=w) (ty:=ty) (A:=none) (n:=0) (c:=0) hu hdu hd2 hE hsz (hx w (fun _=>rfl)).1 (hx w (fun _=>rfl)).2 (by omega) (w':=w) (fun a ha=>by cases ha) (fun _=>rfl)
       simp only [SV.den]
       rw [this,h0]
      ·obtain ⟨hs,h⟩:=zm ((zt h).2 (by simp [h0]))
       obtain ⟨m,w',g1,g2,g3,g4,g5⟩:=zer (P:=P) (w:=w) (ty:=ty) (A:=none) (n:=0) (c:=0) (old:= []) hu hdu hd2 hE hsz hb z hz hx (fun w' _=>rfl) (by omega) (by omega)
       have h:=zmx (xp h (List.replicate m z))
       have hc:zq ρ [SV.arr8 (new.length+(List.replicate m z).length) (new++List.replicate m z)]=c8 (new++List.replicate m z):=by simp [zq,SV.cells]
       refine ⟨_,zfr ρ hp.length w.heap.size,_,w',?_,zji _ _ _,Step.alloc (el0:=e) (fz:=(0,0)) (ps:= [SV.arr8 (new.length+(List.replicate m z).length) (new++List.replicate m z)]) hr ⟨by simp [SV.ok],trivial⟩ (by rw [hc];simpa using g2) (.inl (Nat.le_refl _)) g3 g4 g5,h⟩
       rw [zhc]
       simp only [SV.den]
       rw [g1];simp
     ·rename_i k n c
      have hh:=zbk h;clear h;obtain ⟨el,ps,hk,h⟩:=hh
      split at h
      ·rename_i m l
       have hh:=zm h;clear h;obtain ⟨⟨p1,p2,p3⟩,h⟩:=hh
       obtain ⟨hok,el0,fz,hblk,hfz⟩:=hr.mem k el _ hk
       have hlm:l.length=m:=hok.1
       have hcells:zq ρ [SV.arr8 m l]=c8 l:=by simp [zq,SV.cells]
       rw [hcells] at hblk hfz
       have hA:(⟨ρ k,0+off [],none⟩:Addr)=⟨ρ k,0,none⟩:=rfl
       by_cases hroom:n+new.length≤c
       ·have hh:=xp h (l.drop (n+new.length));clear h
        obtain ⟨hkl,hh⟩:=zdf hh
        have h:=zdh (zby hh)
        have e1:l.take n++new++l.drop (n+new.length)=zw l n new:=rfl
        have e2:n+new.length+(l.drop (n+new.length)).length=l.length:=by simp;omega
        rw [e1,e2] at h
        have hst:=xm (P:=P) (b:=ρ k) (s:=n) (el:=el0) (fz:=fz) (c8 new) 0 (c8 l) w hblk hfz (by simp [c8];omega) (One.map _ (fun _=>rfl) new)
        have hsp:zw (c8 l) (n+0) (c8 new)=c8 (zw l n new):=by rw [Nat.add_zero];exact (zhg _ l n new).symm
        rw [hsp] at hst
        have hcn:zq ρ [SV.arr8 l.length (zw l n new)]=c8 (zw l n new):=by simp [zq,SV.cells]
        have hls:(zw l n new).length=l.length:=y6 l n new (by omega)
        have st1:=Step.write (el0:=el0) (fz:=fz) hr hk (ps':= [SV.arr8 l.length (zw l n new)]) ⟨hls,trivial⟩ (by rw [hcn];simp [c8,hls] at hfz ⊢;exact hfz)
        have st2:=Step.move (el':=e) st1.rel (k:=k) (List.getElem?_set_self hkl)
        have st:=st1.trans st2
        have hset:(hp.set k (Blk.mk el [SV.arr8 l.length (zw l n new)])).set k Blk.dead=hp.set k Blk.dead:=by simp
        rw [hset,List.length_set] at st
        refine ⟨_,_,_,_,?_,by simp [SV.ok],st,h⟩
        have hd:(SV.sl hp.length 0 0 [] (n+new.length) l.length).den (zfr ρ hp.length (ρ k))= .slice (some ⟨ρ k,0,none⟩) (n+new.length) l.length:=by simp [SV.den,xj,off]
        rw [hd]
        have:=zew (P:=P) (w:=w) (ty:=ty) (A:=some ⟨ρ k,0,none⟩) (n:=n) (c:=c) hu hdu hd2 hE hsz (hx w (fun _=>rfl)).1 (hx w (fun _=>rfl)).2 hroom (w':=World.putAt w (ρ k) (.cells (c8 (zw l n new)).toArray el0 fz)) (fun a ha=>by
          cases ha
          rw [zb4,Nat.zero_add,Nat.mul_one];exact hst) (fun hc=>by cases hc)
        simp only [SV.den,hA]
        rw [this,p2,hcn]
       ·have hold: ∀w',(∀a,w'.cell? a=w.cell? a)→(Builtin.firstCells 1 n (.slice (some ⟨ρ k,0,none⟩) n c)).run P w'= .ok (c8 (l.take n)).toArray w':=by
          intro w' hw'
          simp only [Builtin.firstCells,Nat.mul_one]
          have hlen:(c8 (l.take n)).length=n:=by simp [c8];omega
          have:=xw (P:=P) (w:=w') (b:=ρ k) (s:=0) (L:=c8 l) (M:=c8 (l.take n)) (fun i=>by rw [hw',hr.cell hk i,hcells]) (fun i hi=>by
            rw [hlen] at hi
            simp [c8,List.getElem?_take,hi])
          rw [hlen] at this;exact this
        obtain ⟨m',w',g1,g2,g3,g4,g5⟩:=zer (P:=P) (w:=w) (ty:=ty) (A:=some ⟨ρ k,0,none⟩) (n:=n) (c:=c) (old:=l.take n) hu hdu hd2 hE hsz hb z hz hx hold (by omega) (by omega)
        have hh:=xp h (List.replicate m' z);clear h
        obtain ⟨hkl,hh⟩:=zdf hh
        have h:=zdh (zby hh)
        have st1:=Step.kill hr k
        have hc:zq ρ [SV.arr8 (n+new.length+(List.replicate m' z).length) (l.take n++new++List.replicate m' z)]=c8 (l.take n++new++List.replicate m' z):=by simp [zq,SV.cells]
        have hln:(l.take n).length=n:=by simp;omega
        have st2:=Step.alloc (el:=e) (el0:=e) (fz:=(0,0)) (w':=w') (ps:= [SV.arr8 (n+new.length+(List.replicate m' z).length) (l.take n++new++List.replicate m' z)]) st1.rel ⟨by simp [SV.ok];omega,trivial⟩ (by rw [hc];exact g2) (.inl (Nat.le_refl _)) g3 g4 g5
        have st:=st1.trans st2
        rw [List.length_set] at st
        refine ⟨_,_,_,_,?_,by simp [SV.ok],st,h⟩
        have hd:(SV.sl hp.length 0 0 [] (n+new.length) (n+new.length+(List.replicate m' z).length)).den (zfr ρ hp.length w.heap.size)= .slice (some ⟨w.heap.size,0,none⟩) (n+new.length) (n+new.length+m'):=by simp [SV.den,xj,off]
        rw [hd]
        simp only [SV.den,hA]
        exact g1
      ·exact h.elim
     ·exact h.elim
    ·exact h.elim
   ·exact h.elim
  ·exact h.elim
end
end Go.Sym
