/-
  Contracts of functions of the program, each said of symbolic values, and plain laws; no condition beyond each statement's own.
-/
import Derived.Test.YtmmpgjcpielefaaG5
import Derived.Laws.MakeOwn
import Derived.Laws.BytesArg
set_option linter.unusedSimpArgs false
set_option linter.unusedVariables false
namespace Go.Sym
section
variable {P:Program} {Γ:Ctx} {p:Nat→Prop} {ρ:Nat→Nat} {hp:List Blk}
theorem za2 {k:Nat} {K:TypeId→List SV→Prop} (h:zck hp k K): ∃el ps,hp[k]?=some (.mk el ps)∧K el ps:=by
  unfold zck at h
  obtain ⟨b,h1,h⟩:=zb0 h
  split at h
  ·exact ⟨_,_,h1,h⟩
  ·exact h.elim
theorem zj7 {b:Blk} {K:Nat→List Blk→Prop} (h:zlr hp b K):K hp.length (hp++ [b]):=by
  unfold zlr at h
  exact zbk (zc0 h)
theorem zhy {w:World} (hr:HpRel ρ hp w) {v:SV} {K:List UInt8→Prop} (h:zgm hp v K):
    ∃l,K l∧(v.den ρ).cells.size=1∧ ∀w':World,(∀a,w'.cell? a=w.cell? a)→(Builtin.lenOf (v.den ρ)).run P w'= .ok l.length w'∧
     (∀m,m≤l.length→(Builtin.firstCells 1 m (v.den ρ)).run P w'= .ok (c8 (l.take m)).toArray w')∧
     ((∀s,v≠ .str s)→(Conv.bytesToString (v.den ρ)).run P w'= .ok (.string ⟨l.toArray⟩) w'):=by
  unfold zgm at h
  split at h
  ·rename_i l
   refine ⟨l,h,rfl,fun w' _=>⟨?_,fun m hm=>?_,fun hn=>absurd rfl (hn l)⟩⟩
   ·simp [Builtin.lenOf,SV.den,ByteArray.size]
   ·simp only [Builtin.firstCells,SV.den,Sem.run_pure,zj8]
    congr 1
    apply Array.ext'
    simp [c8]
  ·refine ⟨[],h,rfl,fun w' _=>⟨rfl,fun m hm=>?_,fun _=>rfl⟩⟩
   simp [Builtin.firstCells,SV.den,c8]
  ·rename_i k j b o n c
   unfold z0c at h
   obtain ⟨el,ps,hk,h⟩:=za2 h
   obtain ⟨a,r,he,hb,h'⟩:=zdk h
   clear h
   have h:=h'
   clear h'
   split at h
   ·rename_i q r'
    split at h
    ·rename_i m l
     obtain ⟨h1,h⟩:=zl h
     have hcell:=fun i=>hr.cell hk i
     obtain ⟨hok,_⟩:=hr.mem k el ps hk
     rw [he] at hok hcell
     obtain ⟨hoa,_⟩:=y4.1 hok
     have hla:(zm ρ a).length=b:=by rw [y8 ρ a hoa,hb]
     have hload: ∀w':World,(∀a,w'.cell? a=w.cell? a)→ ∀m',m'≤n→(loadCells ⟨ρ k,b+off o,none⟩ m').run P w'= .ok (c8 ((l.drop (off o)).take m')).toArray w':=by
       intro w' hw' m' hm'
       have hlen:(c8 ((l.drop (off o)).take m')).length=m':=by simp [c8];omega
       have:=xq (P:=P) (w:=w') (b:=ρ k) (s:=b+off o) (L:=zm ρ (a++SV.arr8 m l ::r')) (M:=c8 ((l.drop (off o)).take m'))
         (fun i=>by rw [hw',hcell]) (fun i hi=>by
           have hi':i<m':=by omega
           rw [Nat.add_assoc]
           have e:(c8 ((l.drop (off o)).take m'))[i]?=(c8 l)[off o+i]?:=by simp [c8,List.getElem?_take,hi',List.getElem?_drop]
           have hx:off o+i<(c8 l).length:=by simp [c8];omega
           rw [e,List.getElem?_eq_getElem hx]
           exact zjm hla (by show (c8 l)[_]?=_;rw [List.getElem?_eq_getElem hx]))
       rw [hlen] at this
       exact this
     refine ⟨_,h,rfl,fun w' hw'=>⟨?_,fun m' hm'=>?_,fun _=>?_⟩⟩
     ·simp only [Builtin.lenOf,SV.den,Sem.run_pure]
      congr 1;simp;omega
     ·have hm2:m'≤n:=by simp at hm';omega
      simp only [Builtin.firstCells,SV.den,Nat.mul_one]
      rw [hload w' hw' m' hm2,List.take_take,Nat.min_eq_left hm2]
     ·have:=run_bytesToString (P:=P) w' ⟨ρ k,b+off o,none⟩ n c (((l.drop (off o)).take n).map fun x=>(x.toNat:Int)) (by
        rw [hload w' hw' n (Nat.le_refl _)];congr 1;simp [c8];rfl)
      simp only [SV.den]
      rw [this,foldl_push_bytes]
      congr 2
      apply ByteArray.ext
      have e:((fun n:Int=>UInt8.ofNat n.toNat)∘ fun x:UInt8=>(x.toNat:Int))=id:=by funext x;simp
      simp [e]
    ·exact h.elim
   ·exact h.elim
  ·exact h.elim
theorem zvm (l:List Value): ∀(o:Nat) (cs:Array Value),o+l.length≤cs.size→
    (l.zipIdx.foldl (fun (cs:Array Value) (x:Value×Nat)=>cs.setIfInBounds (o+x.2) x.1) cs)=(zx cs.toList o l).toArray:=by
  have key: ∀(l:List Value) (s o:Nat) (cs:Array Value),o+s+l.length≤cs.size→
    ((l.zipIdx s).foldl (fun (cs:Array Value) (x:Value×Nat)=>cs.setIfInBounds (o+x.2) x.1) cs)=(zx cs.toList (o+s) l).toArray:=by
    intro l
    induction l with
    |nil=>intro s o cs h;simp [zx]
    |cons v l ih=>
     intro s o cs h
     simp only [List.length_cons] at h
     simp only [List.zipIdx_cons,List.foldl_cons]
     rw [ih (s+1) o _ (by simp;omega)]
     congr 1
     simp only [Array.toList_setIfInBounds]
     have hi:o+s<cs.toList.length:=by simp;omega
     have hi2:o+s<cs.size:=by omega
     simp only [zx]
     have e1:(cs.toList.set (o+s) v).take (o+(s+1))=cs.toList.take (o+s)++ [v]:=by
       rw [show o+(s+1)=(o+s)+1 by omega,List.take_add_one,List.take_set,List.set_eq_of_length_le (by simp;omega),List.getElem?_set_self hi]
       rfl
     have e2:(cs.toList.set (o+s) v).drop (o+(s+1)+l.length)=cs.toList.drop (o+s+(l.length+1)):=by
       rw [List.drop_set_of_lt (by omega),show o+(s+1)+l.length=o+s+(l.length+1) by omega]
     rw [e1,e2];simp
  intro o cs h
  have:=key l 0 o cs (by omega)
  simpa using this
theorem zmn {place:Nat→Option (Nat×Nat)} {L M L':List Value} {i s sz:Nat} {v:Value} {rest:List (Nat×Value)} (hp:place i=some (s,sz)) (hv:v.cells=M.toArray) (hsz:M.length=sz)
    (hw:zh0 L s M L'):Instr.fill place L.toArray ((i,v) ::rest)=Instr.fill place L'.toArray rest:=by
  obtain ⟨h1,h2,_⟩:=hw
  subst h1
  conv=>lhs;unfold Instr.fill
  simp only [hp,hv]
  have h3:(decide (M.toArray.size≠sz)||decide (s+M.toArray.size>L.toArray.size))=false:=by simp;omega
  rw [h3]
  have:=zvm M s L.toArray (by simpa using h2)
  simp only [Bool.false_eq_true,if_false]
  rw [←this]
  congr 1
  simp
theorem zsw {ei:TyI} {ps:List SV} {i:Nat} {v:SV} {k:List SV→Prop} (hps:okL p ps) (hv:v.ok p) (h:zey ei ps i v k):
    ∃ps',k ps'∧okL p ps'∧(v.cells ρ).length=ei.sz∧zh0 (zm ρ ps) (i*ei.sz) (v.cells ρ) (zm ρ ps'):=by
  have walk:(zfx ps 0 0 (i*ei.sz) fun j b o=>zd0 ei ps j b o v k)→ ∃ps',k ps'∧okL p ps'∧(v.cells ρ).length=ei.sz∧zh0 (zm ρ ps) (i*ei.sz) (v.cells ρ) (zm ρ ps'):=by
    intro h
    obtain ⟨j,b,o,he,h⟩:=zj1 h
    obtain ⟨ps',h1,h2,h3,h4⟩:=zh5 (ρ:=ρ) hps hv h
    refine ⟨ps',h1,h2,h3,?_⟩
    rw [he] at h4;simpa using h4
  unfold zey at h
  dsimp only at h
  split at h
  ·split at h
   ·obtain ⟨ps',h1,h2,h3,h4⟩:=zh5 (ρ:=ρ) hps hv h
    refine ⟨ps',h1,h2,h3,?_⟩
    simpa [off,zbj] using h4
   ·exact walk h
  ·exact walk h
theorem zfe {ei:TyI}: ∀{given:List (Nat×SV)} {ps:List SV} {k:List SV→Prop},okL p ps→(∀g∈given,g.2.ok p)→zdf ei ps given k→
    ∃ps',k ps'∧okL p ps'∧Instr.fill (fun i=>some (i*ei.sz,ei.sz)) (zm ρ ps).toArray (given.map fun g=>(g.1,g.2.den ρ))=some (zm ρ ps').toArray
  | [],ps,k,hps,_,h=>⟨ps,h,hps,rfl⟩
  |(i,v) ::r,ps,k,hps,hg,h=>by
   obtain ⟨ps1,h1,h2,h3,h4⟩:=zsw (ρ:=ρ) hps (hg (i,v) (by simp)) h
   obtain ⟨ps2,g1,g2,g3⟩:=zfe (given:=r) h2 (fun g hgr=>hg g (by simp [hgr])) h1
   refine ⟨ps2,g1,g2,?_⟩
   rw [List.map_cons,zmn (M:=v.cells ρ) rfl (zcb ρ v) h3 h4]
   exact g3
theorem zhv (hΓ:CtxOK P Γ) {fs:List (Nat×TypeId)} {place:Nat→Option (Nat×Nat)}
    (hplace: ∀i c t ti,fs[i]?=some (c,t)→yw Γ.ty t=some ti→place i=some (c,ti.sz)): ∀{given:List (Nat×SV)} {ps:List SV} {k:List SV→Prop},okL p ps→(∀g∈given,g.2.ok p)→zcf Γ fs ps given k→
    ∃ps',k ps'∧okL p ps'∧Instr.fill place (zm ρ ps).toArray (given.map fun g=>(g.1,g.2.den ρ))=some (zm ρ ps').toArray
  | [],ps,k,hps,_,h=>⟨ps,h,hps,rfl⟩
  |(i,v) ::r,ps,k,hps,hg,h=>by
   unfold zcf at h
   obtain ⟨ft,hft,h⟩:=zb0 h
   obtain ⟨fi,hfi,h⟩:=zz h
   obtain ⟨j,b,o,he,h⟩:=zj1 h
   obtain ⟨ps1,h1,h2,h3,h4⟩:=zh5 (ρ:=ρ) hps (hg (i,v) (by simp)) h
   obtain ⟨ps2,g1,g2,g3⟩:=zhv hΓ hplace (given:=r) h2 (fun g hgr=>hg g (by simp [hgr])) h1
   refine ⟨ps2,g1,g2,?_⟩
   rw [he] at h4
   rw [List.map_cons,zmn (M:=v.cells ρ) (hplace i ft.1 ft.2 fi hft hfi) (zcb ρ v) h3 (by simpa using h4)]
   exact g3
theorem zac {t:TypeId} {ti:TyI} (ht:yp P t ti) (w:World):(zeroValue t).run P w= .ok (ti.zero.den ρ) w:=by
  obtain ⟨⟨info,h1,_,_,h4⟩,_⟩:=ht
  simp only [zeroValue,typeInfo,Sem.run_bind,run_program,Result.andThen_ok,h1,Sem.run_pure,h4 ρ]
def zfh (flds:List Field):Sem (List (Nat×Nat)):=List.mapM (m:=Sem) (fun (f:Field)=>do
  let s ←sizeOf f.type
  pure (f.offset,s)) flds
theorem zqj (hΓ:CtxOK P Γ) {K:Prop}: ∀{flds:List Field} {fs:List (Nat×TypeId)},(flds.map fun (f:Field)=>(f.offset,f.type))=fs→zlj Γ fs K→
    K∧ ∃places:List (Nat×Nat),(∀w,(zfh flds).run P w= .ok places w)∧
     ∀(i c:Nat) (t:TypeId) (ti:TyI),fs[i]?=some (c,t)→yw Γ.ty t=some ti→(places[i]?:Option (Nat×Nat))=some (c,ti.sz)
  | [],fs,hfs,h=>by
    subst hfs
    exact ⟨h,[],fun w=>rfl,fun i c t ti hi=>by simp at hi⟩
  |f ::flds,fs,hfs,h=>by
   subst hfs
   simp only [List.map_cons,zlj] at h
   obtain ⟨ti,ht,h⟩:=zz h
   obtain ⟨hK,places,h1,h2⟩:=zqj hΓ (flds:=flds) rfl h
   refine ⟨hK,(f.offset,ti.sz) ::places,fun w=>?_,fun i c t ti' hi hti=>?_⟩
   ·have h1':=h1 w
    unfold zfh at h1' ⊢
    rw [List.mapM_cons]
    simp only [Sem.run_bind,yf (hΓ.ty _ ti ht),Result.andThen_ok,Sem.run_pure,h1']
   ·cases i with
    |zero=>
     simp at hi
     obtain ⟨rfl,rfl⟩:=hi
     rw [ht] at hti;cases hti;rfl
    |succ i=>simpa using h2 i c t ti' (by simpa using hi) hti
theorem zw3 (hΓ:CtxOK P Γ) {t:TypeId} {given:List (Nat×SV)} {K:SV→Prop} (hg: ∀g∈given,g.2.ok p) (h:zo9 Γ t given K):
    ∃v:SV,K v∧v.ok p∧ ∀w,(Instr.build t (given.map fun g=>(g.1,g.2.den ρ)).toArray).run P w= .ok (v.den ρ) w:=by
  unfold zo9 at h
  obtain ⟨ti,ht,h⟩:=zz h
  have hT:=hΓ.ty t ti ht
  have hu:=hT.2.2.1
  split at h
  ·rename_i hm
   obtain ⟨zs,h,hz1,_,hz3⟩:=zd2 (p:=p) ρ h
   have hzok:okL p zs:=hz3 (SV.ok_mono (fun _ hf=>hf.elim) _ hT.2.1.1)
   have hzc: ∀w,(zeroValue t).run P w= .ok (.agg (zm ρ zs).toArray) w:=fun w=>by rw [zac (ρ:=ρ) hT,zbt hm,hz1]
   split at h
   ·rename_i fs hd
    rw [hd] at hu
    obtain ⟨flds,hu,hfs,hn⟩:=hu
    obtain ⟨h,places,hpl,hpi⟩:=zqj hΓ hfs h
    obtain ⟨ps',h1,h2,h3⟩:=zhv (ρ:=ρ) hΓ (place:=(places.toArray[·]?)) (fun i c t ti h1 h2=>by simpa using hpi i c t ti h1 h2) hzok hg h
    refine ⟨_,h1,h2,fun w=>?_⟩
    simp only [Instr.build,Sem.run_bind,hzc,Result.andThen_ok,run_underlying hu,Value.cells]
    have hmm:(Array.mapM (m:=Sem) (fun (f:Field)=>do let s ←sizeOf f.type;pure (f.offset,s)) flds).run P w= .ok places.toArray w:=by
      rw [Array.mapM_eq_mapM_toList]
      have:=hpl w
      unfold zfh at this
      simp only [Sem.run_map,this,Result.andThen_ok]
    simp only [Sem.run_bind,hmm,Result.andThen_ok,h3]
    rfl
   ·rename_i n e hd
    rw [hd] at hu
    obtain ⟨ei,he,h⟩:=zz h
    have hE:=hΓ.ty e ei he
    obtain ⟨ps',h1,h2,h3⟩:=zfe (ρ:=ρ) hzok hg h
    obtain ⟨v,hvm,hvc,hvo,hk⟩:=ztz (p:=p) h1
    refine ⟨v,hk,hvo h2,fun w=>?_⟩
    simp only [Instr.build,Sem.run_bind,hzc,Result.andThen_ok,run_underlying hu,Value.cells,yf hE,h3]
    rw [zbt hvm,hvc];rfl
   ·exact h.elim
  ·exact h.elim
theorem zlx {z:SV}: ∀{n:Nat} {k:List SV→Prop},zrz z n k→k (List.replicate n z)
  |0,_,h=>h
  |n+1,k,h=>by rw [List.replicate_succ];exact zlx (k:=fun l=>k (z ::l)) h
theorem zld (Z:Array Value) (m:Nat) (v:Value) (hz:0<Z.size) (h: ∀i,i<Z.size→Z[i]! =v):(madeCells Z m).toList=List.replicate m v:=by
  apply List.ext_getElem?
  intro i
  simp only [madeCells]
  rcases Nat.lt_or_ge i m with hi|hi
  ·simp [hi,h (i%Z.size) (Nat.mod_lt _ hz)]
  ·simp [List.getElem?_eq_none,hi]
theorem zu1 {z:SV} {c:Nat} {K:List SV→Prop} (h:zrf z c K):
    ∃ps,K ps∧okL p ps∧(madeCells (z.den ρ).cells (c*z.size)).toList=zm ρ ps:=by
  have one: ∀v:Value,madeCells #[v] c=(List.replicate c v).toArray:=fun v=>by
    apply Array.ext'
    exact zld #[v] c v (by simp) (fun i hi=>by simp at hi;subst hi;rfl)
  have rep: ∀u:SV,∀n,u.scalar=true→zm ρ (List.replicate n u)=List.replicate n (u.den ρ):=by
    intro u n hu
    induction n with
    |zero=>rfl
    |succ n ih=>simp only [List.replicate_succ,zm,zae hu,ih];rfl
  have repok: ∀u:SV,∀n,u.ok p→okL p (List.replicate n u):=by
    intro u n hu
    induction n with
    |zero=>trivial
    |succ n ih=>exact ⟨hu,ih⟩
  unfold zrf at h
  split at h
  ·exact ⟨_,h,⟨by simp [SV.ok],trivial⟩,by simp [SV.den,Value.cells,SV.size,one,zm,SV.cells,c8]⟩
  ·exact ⟨_,h,⟨by simp [SV.ok],trivial⟩,by simp [SV.den,Value.cells,SV.size,one,zm,SV.cells,c32]⟩
  ·exact ⟨_,h,⟨by simp [SV.ok],trivial⟩,by simp [SV.den,Value.cells,SV.size,one,zm,SV.cells,c64]⟩
  ·exact ⟨_,h,⟨by simp [SV.ok],trivial⟩,by simp [SV.den,Value.cells,SV.size,one,zm,SV.cells,ci]⟩
  ·exact ⟨_,h,⟨by simp [SV.ok],trivial⟩,by simp [SV.den,Value.cells,SV.size,one,zm,SV.cells,cs]⟩
  ·refine ⟨_,h,⟨by simp [SV.ok],trivial⟩,?_⟩
   simp only [SV.den,Value.cells,SV.size,one,zm,SV.cells,List.append_nil,Nat.mul_one]
   apply List.ext_getElem?
   intro i
   rename_i x
   have hl:(xx c fun _=> [At.bool x]).length=c*1:=xn c 1 _ (fun _ _=>rfl)
   rcases Nat.lt_or_ge i c with hi|hi
   ·have:=zcl c 1 (fun _=> [At.bool x]) (fun _ _=>rfl) i 0 hi (by omega)
    simp only [Nat.mul_one,Nat.add_zero] at this
    rw [this];simp [hi];rfl
   ·rw [List.getElem?_eq_none (by simp;omega),List.getElem?_eq_none (by omega)]
  ·rename_i m x l
   obtain ⟨h1,h⟩:=zl h
   refine ⟨_,h,⟨by simp [SV.ok],trivial⟩,?_⟩
   simp only [SV.den,Value.cells,SV.size,zm,SV.cells,List.append_nil,h1]
   rw [zld _ _ (.int .u8 (x.toNat:Int))]
   ·simp [c8]
   ·have:(x ::l).length=m:=by rw [h1];simp
    simp [c8] at this ⊢;omega
   ·intro i hi
    simp [c8] at hi ⊢
    simp [hi]
  ·rename_i ps
   obtain ⟨as,h',hps⟩:=zh3 h
   clear h
   have h:=h'
   clear h'
   subst hps
   split at h
   ·exact h.elim
   ·rename_i a r
    refine ⟨_,h,⟨fun i _=>by simp,trivial⟩,?_⟩
    have hsz: ∀as:List At,z6 (as.map At.sv)=as.length:=fun as=>by
      induction as with
      |nil=>rfl
      |cons a as ih=>simp only [List.map_cons,z6,zvr (At.sv_scalar a),ih,List.length_cons];omega
    simp only [SV.den,Value.cells,SV.size,zm,SV.cells,List.append_nil,hsz,ziv]
    apply List.ext_getElem?
    intro i
    simp only [madeCells]
    by_cases hi:i<c*(r.length+1)
    ·have hp:0<r.length+1:=by omega
     have hq:i/ (r.length+1)<c:=Nat.div_lt_of_lt_mul (by rwa [Nat.mul_comm] at hi)
     have hm:=Nat.mod_lt i hp
     have e:i=i/ (r.length+1)*(r.length+1)+i%(r.length+1):=by rw [Nat.mul_comm];exact (Nat.div_add_mod _ _).symm
     conv=>rhs;rw [e]
     rw [zcl c (r.length+1) _ (fun _ _=>by simp) _ _ hq hm]
     simp [hi]
     have hm':i%(r.length+1)<(a.val ::r.map At.val).length:=by simpa using hm
     have e2:a.val ::r.map At.val=(a ::r).map At.val:=rfl
     rw [e2,List.getElem?_map]
     have hm2:i%(r.length+1)<(a ::r).length:=by simpa using hm
     rw [List.getElem?_eq_getElem hm2];rfl
    ·have hl:(xx c fun _=>a ::r).length=c*(r.length+1):=xn c _ _ (fun _ _=>by simp)
     have hl2:((Array.range (c*(a ::r).length)).map fun x=>((a ::r).map At.val).toArray[x%((a ::r).map At.val).toArray.size]!).toList.length=c*(r.length+1):=by simp
     rw [List.getElem?_eq_none (by rw [hl2];omega),List.getElem?_eq_none (by rw [hl];omega)]
  ·exact ⟨_,zlx h,repok _ _ trivial,by simp only [SV.den,Value.cells,SV.size,Nat.mul_one,one,rep .nilsl _ rfl]⟩
  ·exact ⟨_,zlx h,repok _ _ trivial,by simp only [SV.den,Value.cells,SV.size,Nat.mul_one,one,rep .nilptr _ rfl]⟩
  ·exact ⟨_,zlx h,repok _ _ trivial,by simp only [SV.den,Value.cells,SV.size,Nat.mul_one,one,rep .nilif _ rfl]⟩
  ·exact ⟨_,zlx h,repok _ _ trivial,by simp only [SV.den,Value.cells,SV.size,Nat.mul_one,one,rep .nilfn _ rfl]⟩
  ·exact h.elim
end
end Go.Sym

namespace Go.Sym
section
variable {P:Program} {Γ:Ctx} {p:Nat→Prop} {ρ:Nat→Nat} {hp:List Blk}
theorem zcd {n es:Nat} {f:Nat→List At} (h: ∀i,i<n→(f i).length=es):(xx n f).length=n*es:=by
  unfold xx
  induction n with
  |zero=>simp
  |succ n ih=>
   rw [List.range_succ,List.flatMap_append,List.length_append,ih (fun i hi=>h i (by omega))]
   simp [h n (by omega),Nat.succ_mul]
theorem zhz (a b:Nat) (f:Nat→List At):xx (a+b) f=xx a f++xx b (fun j=>f (a+j)):=by
  unfold xx
  rw [List.range_add,List.flatMap_append,List.flatMap_map]
theorem zlv {n:Nat} {f g:Nat→List At} (h: ∀i,i<n→f i=g i):xx n f=xx n g:=by
  unfold xx
  rw [List.flatMap_def,List.flatMap_def,List.map_congr_left fun i hi=>by rw [h i (List.mem_range.1 hi)]]
theorem zwg {m i n es:Nat} {f:Nat→List At} (hf: ∀i,i<m→(f i).length=es) (h:i+n≤m):((xx m f).drop (i*es)).take (n*es)=xx n (fun j=>f (i+j)):=by
  obtain ⟨r,rfl⟩: ∃r,m=i+n+r:=⟨m-(i+n),by omega⟩
  rw [zhz,zhz,List.append_assoc]
  have h1:(xx i f).length=i*es:=zcd fun j hj=>hf j (by omega)
  have h2:(xx n fun j=>f (i+j)).length=n*es:=zcd fun j hj=>hf _ (by omega)
  rw [List.drop_left' h1,List.take_left' h2]
theorem zv9 {m c es:Nat} {f:Nat→List At} (hf: ∀i,i<c→(f i).length=es) (h:m≤c):(xx c f).drop (m*es)=xx (c-m) (fun j=>f (m+j)):=by
  obtain ⟨r,rfl⟩: ∃r,c=m+r:=⟨c-m,by omega⟩
  rw [zhz,List.drop_left' (zcd fun j hj=>hf j (by omega)),Nat.add_sub_cancel_left]
theorem zh8 (ρ:Nat→Nat): ∀as:List At,zm ρ (as.map At.sv)=as.map At.val
  | []=>rfl
  |a ::as=>by
   show (a.sv).cells ρ++zm ρ (as.map At.sv)=a.val ::as.map At.val
   rw [zh8 ρ as]
   cases a<;>rfl
theorem zmx {q:SV} {o:List (Nat×Nat)} {n es:Nat} {k:SV→Prop} (h:zjn q o n es k) (hq:q.ok p):
    ∃r,k r∧r.ok p∧off o+n*es≤(q.cells ρ).length∧(∀ρ',r.cells ρ'=((q.cells ρ).drop (off o)).take (n*es))∧One (r.cells ρ):=by
  unfold zjn at h
  split at h
  ·rename_i m l
   obtain ⟨h1,h⟩:=zl h
   exact ⟨_,h,by simp only [SV.ok,List.length_take,List.length_drop];omega,by simp [SV.cells,c8];omega,fun ρ'=>by simp [SV.cells,c8,List.map_take,List.map_drop],One.map _ (fun _=>rfl) _⟩
  ·rename_i m l
   obtain ⟨h1,h⟩:=zl h
   exact ⟨_,h,by simp only [SV.ok,List.length_take,List.length_drop];omega,by simp [SV.cells,ci];omega,fun ρ'=>by simp [SV.cells,ci,List.map_take,List.map_drop],One.map _ (fun _=>rfl) _⟩
  ·rename_i m l
   obtain ⟨h1,h⟩:=zl h
   exact ⟨_,h,by simp only [SV.ok,List.length_take,List.length_drop];omega,by simp [SV.cells,cs];omega,fun ρ'=>by simp [SV.cells,cs,List.map_take,List.map_drop],One.map _ (fun _=>rfl) _⟩
  ·rename_i m e f
   split at h
   ·rename_i he
    have he:=Nat.eq_of_beq_eq_true he
    subst he
    obtain ⟨i,c,ho,h⟩:=zkg h
    split at h
    ·obtain ⟨h1,h⟩:=zl h
     have hf: ∀i,i<m→(f i).length=e:=hq
     have hlen:=zcd hf
     rw [Nat.add_zero] at ho
     refine ⟨_,h,fun j hj=>hf _ (by omega),?_,fun ρ'=>?_,?_⟩
     ·simp only [SV.cells];rw [hlen,ho,←Nat.add_mul];exact Nat.mul_le_mul_right _ h1
     ·simp only [SV.cells];rw [ho];exact (zwg hf h1).symm
     ·intro v hv
      simp only [SV.cells,xx,List.mem_flatMap,List.mem_map] at hv
      obtain ⟨i,_,a,_,rfl⟩:=hv
      exact zpe a
    ·exact h.elim
   ·exact h.elim
  ·exact h.elim
theorem zj6 {q r:SV} {k:SV→Prop} (h:z0w q r k) (hq:q.ok p) (hr:r.ok p):
    ∃s,k s∧s.ok p∧ ∀ρ',s.cells ρ'=q.cells ρ'++r.cells ρ':=by
  unfold z0w at h
  split at h
  ·split at h
   ·exact ⟨_,h,by simp only [SV.ok,List.length_append] at *;omega,fun ρ'=>by simp [SV.cells,c8]⟩
   ·exact h.elim
  ·split at h
   ·exact ⟨_,h,by simp only [SV.ok,List.length_append] at *;omega,fun ρ'=>by simp [SV.cells,ci]⟩
   ·exact h.elim
  ·split at h
   ·exact ⟨_,h,by simp only [SV.ok,List.length_append] at *;omega,fun ρ'=>by simp [SV.cells,cs]⟩
   ·exact h.elim
  ·rename_i a e f
   split at h
   ·rename_i b e' g
    split at h
    ·rename_i he
     have he:=Nat.eq_of_beq_eq_true he
     subst he
     have hf: ∀i,i<a→(f i).length=e:=hq
     have hg: ∀i,i<b→(g i).length=e:=hr
     refine ⟨_,h,fun i hi=>?_,fun ρ'=>?_⟩
     ·show (if i<a then f i else g (i-a)).length=e
      split
      ·exact hf i (by assumption)
      ·exact hg _ (by omega)
     ·simp only [SV.cells]
      rw [zhz]
      congr 1
      ·exact zlv fun i hi=>by rw [if_pos hi]
      ·exact zlv fun i hi=>by rw [if_neg (by omega),Nat.add_sub_cancel_left]
    ·exact h.elim
   ·exact h.elim
  ·exact h.elim
theorem zok {α:Type} (g:α→Value) (l:List α) (t:Nat):(List.replicate t (l.map g)).flatten=((List.replicate t l).flatten).map g:=by
  rw [List.map_flatten,List.map_replicate]
theorem zg5 {α:Type} (l:List α) (t:Nat):((List.replicate t l).flatten).length=t*l.length:=by
  induction t with
  |zero=>simp
  |succ t ih=>rw [List.replicate_succ,List.flatten_cons,List.length_append,ih,Nat.succ_mul];omega
theorem zun {z q:SV} {es:Nat} {k:Nat→SV→Prop} (h:znp z q es k) (hz:z.ok (fun _=>False)) (hs:z.size=es) (t:Nat):
    ∃r,k t r∧r.ok p∧ ∀ρ',r.cells ρ'=(List.replicate t (z.cells ρ)).flatten:=by
  unfold znp at h
  split at h
  ·split at h
   ·rename_i m l
    have hl:l.length=m:=hz
    have hm:m=es:=hs
    exact ⟨_,za4 h ⟨t,(List.replicate t l).flatten,by rw [zg5,hl,hm]⟩,by simp only [SV.ok];rw [zg5,hl,hm],fun ρ'=>by simp only [SV.cells,c8];rw [zok]⟩
   ·exact h.elim
  ·split at h
   ·rename_i x
    have hm:es=1:=hs.symm
    exact ⟨_,za4 h ⟨t,List.replicate t x,by rw [List.length_replicate,hm,Nat.mul_one]⟩,by simp only [SV.ok];rw [List.length_replicate,hm,Nat.mul_one],fun ρ'=>by simp only [SV.cells,ci];rw [List.map_replicate];simp⟩
   ·exact h.elim
  ·split at h
   ·rename_i x
    have hm:es=1:=hs.symm
    exact ⟨_,za4 h ⟨t,List.replicate t x,by rw [List.length_replicate,hm,Nat.mul_one]⟩,by simp only [SV.ok];rw [List.length_replicate,hm,Nat.mul_one],fun ρ'=>by simp only [SV.cells,cs];rw [List.map_replicate];simp⟩
   ·exact h.elim
  ·split at h
   ·split at h
    ·rename_i zs
     obtain ⟨as,h2,he⟩:=zh3 h
     subst he
     have hsz:as.length=es:=by
       have:=SV.cells_length (p:=fun _=>False) (fun x=>x) (SV.agg (as.map At.sv)) hz
       rw [hs] at this
       simp only [SV.cells,zh8] at this
       simpa using this
     refine ⟨_,za4 h2 ⟨t,fun _=>as,fun i _=>hsz⟩,fun i _=>hsz,fun ρ'=>?_⟩
     simp only [SV.cells,zh8,xx]
     rw [List.flatMap_def,List.map_const']
     simp
    ·exact h.elim
   ·exact h.elim
  ·exact h.elim
theorem z25 {z q:SV} {es c m:Nat} {k:Nat→SV→Prop} (h:znp z q es k) (hq:q.ok p) (hs:q.size=c*es) (hm:m≤c):
    ∃r,k (c-m) r∧r.ok p∧ ∀ρ',r.cells ρ'=(q.cells ρ).drop (m*es):=by
  have hle:c*es-m*es=(c-m)*es:=(Nat.sub_mul c m es).symm
  unfold znp at h
  split at h
  ·rename_i n l
   have hl:l.length=n:=hq
   have hn:n=c*es:=hs
   split at h
   ·exact ⟨_,za4 h ⟨c-m,l.drop (m*es),by rw [List.length_drop,hl,hn,hle]⟩,by simp only [SV.ok];rw [List.length_drop,hl,hn,hle],fun ρ'=>by simp [SV.cells,c8,List.map_drop]⟩
   ·exact h.elim
  ·rename_i n l
   have hl:l.length=n:=hq
   have hn:n=c*es:=hs
   split at h
   ·exact ⟨_,za4 h ⟨c-m,l.drop (m*es),by rw [List.length_drop,hl,hn,hle]⟩,by simp only [SV.ok];rw [List.length_drop,hl,hn,hle],fun ρ'=>by simp [SV.cells,ci,List.map_drop]⟩
   ·exact h.elim
  ·rename_i n l
   have hl:l.length=n:=hq
   have hn:n=c*es:=hs
   split at h
   ·exact ⟨_,za4 h ⟨c-m,l.drop (m*es),by rw [List.length_drop,hl,hn,hle]⟩,by simp only [SV.ok];rw [List.length_drop,hl,hn,hle],fun ρ'=>by simp [SV.cells,cs,List.map_drop]⟩
   ·exact h.elim
  ·rename_i n e f
   split at h
   ·rename_i hee
    have hee:=Nat.eq_of_beq_eq_true hee
    subst hee
    split at h
    ·obtain ⟨as,h2,he⟩:=zh3 h
     have hf: ∀i,i<n→(f i).length=e:=hq
     have hn:n*e=c*e:=hs
     by_cases h0:e=0
     ·subst h0
      refine ⟨_,za4 h2 ⟨c-m,fun _=> [],fun i _=>rfl⟩,fun i _=>rfl,fun ρ'=>?_⟩
      simp only [SV.cells]
      have e1:=zcd hf
      have e2:(xx (c-m) fun _=>([]:List At)).length=(c-m)*0:=zcd fun i _=>rfl
      rw [Nat.mul_zero] at e1 e2
      rw [List.length_eq_zero_iff.1 e1,List.length_eq_zero_iff.1 e2];rfl
     ·have hnc:n=c:=Nat.eq_of_mul_eq_mul_right (Nat.pos_of_ne_zero h0) hn
      subst hnc
      refine ⟨_,za4 h2 ⟨n-m,fun j=>f (m+j),fun i hi=>hf _ (by omega)⟩,fun i hi=>hf _ (by have hi':i<n-m:=hi;omega),fun ρ'=>?_⟩
      simp only [SV.cells]
      exact (zv9 hf hm).symm
    ·exact h.elim
   ·exact h.elim
  ·exact h.elim
end
end Go.Sym

namespace Go.Sym
section
variable {P:Program} {Γ:Ctx} {ρ:Nat→Nat} {hp:List Blk} {w:World}
def Mem (P:Program) (ρ:Nat→Nat) (hp:List Blk) (w:World) (K:SV→List Blk→Prop) (s:Sem Value):Prop:=
  ∃v ρ' hp' w',s.run P w= .ok (v.den ρ') w'∧v.ok (· <hp'.length)∧Step ρ hp w ρ' hp' w'∧K v hp'
theorem zi5 (n c:Nat) (b:Blk):(SV.sl hp.length 0 0 [] n c).ok (· <(hp++ [b]).length):=by simp [SV.ok]
theorem zgj (n c b:Nat):(SV.sl hp.length 0 0 [] n c).den (zer ρ hp.length b)= .slice (some ⟨b,0,none⟩) n c:=by simp [SV.den,xg,off]
theorem zhs (e:TypeId) (l:List UInt8) (w:World): ∃(m:Nat) (w':World),
    (Conv.stringToBytes e ⟨l.toArray⟩).run P w= .ok (.slice (some ⟨w.heap.size,0,none⟩) l.length (l.length+m)) w'∧
    w'.heap=w.heap.push (.cells (c8 (l++List.replicate m 0)).toArray e (l.length+m,l.length+m+1))∧w'.os=w.os∧w'.output=w.output∧w'.tape=w.tape:=by
  have hs:(⟨l.toArray⟩:ByteArray).size=l.length:=by simp [ByteArray.size]
  unfold Conv.stringToBytes
  simp only [Sem.run_bind,run_choose,hs]
  have hnf:(Question.appendCap l.length 0 e).forced=false:=rfl
  simp only [hnf,Bool.false_eq_true,if_false,Result.andThen_ok,Question.cut]
  generalize w.tape w.drawn (Question.appendCap l.length 0 e)%(2^63-l.length)=m
  have e1:l.length+m-l.length=m:=by omega
  have e2:(Array.map (fun b=>Value.int IntKind.u8 ↑(UInt8.toNat b)) (⟨l.toArray⟩:ByteArray).data++Array.replicate (l.length+m-l.length) (Value.int .u8 0))=(c8 (l++List.replicate m 0)).toArray:=by
    rw [e1];apply Array.ext';simp [c8]
  rw [e2]
  simp only [newRow,Sem.run_bind,run_newObj,Result.andThen_ok,Sem.run_pure,markStringish,run_shape,World.shape?]
  simp only [Array.getElem?_push,if_pos]
  refine ⟨m,_,rfl,?_,rfl,rfl,rfl⟩
  have hlen:(c8 (l++List.replicate m 0)).toArray.size=l.length+m:=by simp [c8]
  have hne: ¬(1=0):=by omega
  simp only [run_freeze,World.freeze,hne,if_false,hlen]
  apply Array.ext_getElem?
  intro x
  rw [Array.getElem?_modify]
  by_cases hx:w.heap.size=x
  ·subst hx;simp
  ·have hx': ¬x=w.heap.size:=fun e=>hx e.symm
   simp only [hx,hx',if_false,Array.getElem?_push]
theorem yp.under {t:TypeId} {ti:TyI} (h:yp P t ti): ∃d,P.underlying t=some d:=by
  have hu:=h.2.2.1
  cases hd:ti.d<;>rw [hd] at hu<;>simp only at hu
  case ptr=>obtain ⟨e,hu⟩:=hu;exact ⟨_,hu⟩
  case struct=>obtain ⟨e,hu,_⟩:=hu;exact ⟨_,hu⟩
  case func=>obtain ⟨a,b,c,hu⟩:=hu;exact ⟨_,hu⟩
  case iface=>obtain ⟨e,hu⟩:=hu;exact ⟨_,hu⟩
  case other=>obtain ⟨e,hu,_⟩:=hu;exact ⟨_,hu⟩
  all_goals exact ⟨_,hu⟩
theorem Mem.same (hr:HpRel ρ hp w) {v:SV} {K:SV→List Blk→Prop} {s:Sem Value} (hv:v.ok (· <hp.length)) (hk:K v hp) (hs:s.run P w= .ok (v.den ρ) w):Mem P ρ hp w K s:=
  ⟨v,ρ,hp,w,hs,hv,Step.refl hr,hk⟩
theorem z2f (hΓ:CtxOK P Γ) (hr:HpRel ρ hp w) {s d:TypeId} {x:SV} {K:SV→List Blk→Prop} (h:zyk Γ s d x hp K):
    Mem P ρ hp w K (convert s d (x.den ρ)):=by
  unfold zyk at h
  have hh:=zz h;clear h;obtain ⟨si,hs,h⟩:=hh
  have hS:=hΓ.ty s si hs
  obtain ⟨ds,hds⟩:=hS.under
  have hh:=zz h;clear h;obtain ⟨di,hd,h⟩:=hh
  have hD:=hΓ.ty d di hd
  have hu:=hD.2.2.1
  split at h
  ·rename_i kd hdd
   rw [hdd] at hu
   obtain ⟨sk,n,hn,v,hk,hok,hrun⟩:=zl6 (P:=P) (ρ:=ρ) h
   refine Mem.same hr (hok _) hk ?_
   rw [hn]
   unfold convert
   simp only [Sem.run_bind,run_underlying hds,run_underlying hu,Result.andThen_ok,hrun]
  ·rename_i hdd
   rw [hdd] at hu
   split at h
   ·rename_i l
    refine Mem.same (v:= .str l) hr trivial h ?_
    unfold convert
    simp only [Sem.run_bind,run_underlying hds,run_underlying hu,Result.andThen_ok,SV.den]
    cases ds<;>rfl
   ·split at h
    ·rename_i e he
     have hsu:=hS.2.2.1
     rw [he] at hsu
     have hh:=zz h;clear h;obtain ⟨ei,hei,h⟩:=hh
     have hE:=(hΓ.ty e ei hei).2.2.1
     split at h
     ·rename_i h8
      rw [h8] at hE
      refine Mem.same (v:= .str []) hr trivial h ?_
      unfold convert
      simp only [Sem.run_bind,run_underlying hsu,run_underlying hu,Result.andThen_ok,SV.den,run_underlying hE]
      rfl
     ·exact h.elim
    ·exact h.elim
   ·rename_i k j b o n c
    split at h
    ·rename_i e he
     have hsu:=hS.2.2.1
     rw [he] at hsu
     have hh:=zz h;clear h;obtain ⟨ei,hei,h⟩:=hh
     have hE:=(hΓ.ty e ei hei).2.2.1
     split at h
     ·rename_i h8
      rw [h8] at hE
      obtain ⟨l,h,_,hl⟩:=zhy (P:=P) hr h
      obtain ⟨_,_,h3⟩:=hl w (fun _=>rfl)
      refine Mem.same (v:= .str l) hr trivial h ?_
      have h3':=h3 (fun s hs=>by cases hs)
      unfold convert
      simp only [SV.den] at h3' ⊢
      simp only [Sem.run_bind,run_underlying hsu,run_underlying hu,Result.andThen_ok,run_underlying hE,h3']
     ·exact h.elim
    ·exact h.elim
   ·exact h.elim
  ·rename_i e hdd
   rw [hdd] at hu
   split at h
   ·rename_i l
    have hh:=zz h;clear h;obtain ⟨ei,hei,h⟩:=hh
    have hE:=(hΓ.ty e ei hei).2.2.1
    split at h
    ·rename_i h8
     rw [h8] at hE
     obtain ⟨m,w',h1,h2,h3,h4,h5⟩:=zhs (P:=P) e l w
     have hh:=za4 h (List.replicate m 0);clear h;have h:=hh;clear hh
     have hh:=zj7 h;clear h;have h:=hh;clear hh
     have hc:zm ρ [SV.arr8 (l.length+(List.replicate m (0:UInt8)).length) (l++List.replicate m 0)]=c8 (l++List.replicate m 0):=by simp [zm,SV.cells]
     refine ⟨_,zer ρ hp.length w.heap.size,_,w',?_,zi5 _ _ _,Step.alloc (el0:=e) (fz:=(l.length+m,l.length+m+1)) hr (ps:= [SV.arr8 (l.length+(List.replicate m (0:UInt8)).length) (l++List.replicate m 0)]) ⟨by simp [SV.ok],trivial⟩ (by rw [hc];exact h2) (by rw [hc];simp [c8]) h3 h4 h5,h⟩
     rw [zgj]
     unfold convert
     simp only [Sem.run_bind,run_underlying hds,run_underlying hu,Result.andThen_ok,SV.den]
     have: ∀ds:TypeDesc,(match ds,TypeDesc.slice e,Value.string ⟨l.toArray⟩ with
       |_,.int k,.int _ n=>Conv.intToInt k n
       |_,.float k,.int _ n=>Conv.intToFloat k n
       |_,.int k,.float s b=>Conv.floatToInt s b k
       |_,.float k,.float s b=>Conv.floatToFloat s b k
       |_,.complex k,.complex s a b=>Conv.complexToComplex s a b k
       |_,.string,.int _ n=>Conv.intToString n
       |_,.string,.string _=>pure (Value.string ⟨l.toArray⟩)
       |_,.slice e,.string s=>(do
        match ←underlying e with
        | .int .u8=>Conv.stringToBytes e s
        | .int .i32=>Conv.stringToRunes e s
        |_=>stuck "Convert: string to a slice of what?" :Sem Value)
       |_,_,_=>unsupported (.noEntry "convert/other"))=(do
        match ←underlying e with
        | .int .u8=>Conv.stringToBytes e ⟨l.toArray⟩
        | .int .i32=>Conv.stringToRunes e ⟨l.toArray⟩
        |_=>stuck "Convert: string to a slice of what?" :Sem Value):=fun ds=>rfl
     simp only [List.length_replicate]
     rw [←h1]
     cases ds<;>simp only [Sem.run_bind,run_underlying hE,Result.andThen_ok]
    ·exact h.elim
   ·exact h.elim
  ·exact h.elim
theorem z2e (hΓ:CtxOK P Γ) (hr:HpRel ρ hp w) {t ty:TypeId} {ats:List TypeId} {d s:SV} (hd:d.ok (· <hp.length)) {K:SV→List Blk→Prop} (h:z0p Γ t d s hp K):
    Mem P ρ hp w K (Builtin.copy_ (t ::ats).toArray ty #[d.den ρ,s.den ρ]):=by
  unfold z0p at h
  have hh:=zz h;clear h;obtain ⟨ti,ht,h⟩:=hh
  have hT:=hΓ.ty t ti ht
  have hu:=hT.2.2.1
  split at h
  ·rename_i e hdd
   rw [hdd] at hu
   have hh:=zz h;clear h;obtain ⟨ei,he,h⟩:=hh
   have hE:=hΓ.ty e ei he
   split at h
   ·rename_i hsz
    have hsz:=Nat.eq_of_beq_eq_true hsz
    have hh:=zhy (P:=P) hr h;clear h;obtain ⟨l,h,_,hl⟩:=hh
    obtain ⟨hl1,hl2,_⟩:=hl w (fun _=>rfl)
    split at h
    ·refine Mem.same (v:= .int 0) hr trivial h ?_
     unfold Builtin.copy_
     have hm:Nat.min l.length 0=0:=Nat.min_zero _
     have hu':P.underlying t=some (.slice e):=hu
     simp only [SV.den,List.getElem?_toArray,List.getElem?_cons_zero,show ∀x y:Value,(#[x,y]:Array Value)[0]?=some x from fun _ _=>rfl,show ∀x y:Value,(#[x,y]:Array Value)[1]?=some y from fun _ _=>rfl]
     simp only [Sem.run_bind,run_underlying hu',Result.andThen_ok,hl1,hm,yf hE,hsz,hl2 0 (by omega),Sem.run_pure]
     rfl
    ·rename_i k j b o n c
     have hh:=za2 h;clear h;obtain ⟨el,ps,hk,h⟩:=hh
     have hh:=zdk h;clear h;obtain ⟨a,r,hps,hb,h⟩:=hh
     split at h
     ·rename_i m L r'
      have hh:=zl h;clear h;obtain ⟨h1,h⟩:=hh
      have hh:=zc2 (zd3 h);clear h;obtain ⟨hkl,h⟩:=hh
      obtain ⟨hok,el0,fz,hblk,hfz⟩:=hr.mem k el ps hk
      rw [hps] at hok hblk hfz
      obtain ⟨hoa,hor⟩:=y4.1 hok
      have hla:(zm ρ a).length=b:=by rw [y8 ρ a hoa,hb]
      have hLm:L.length=m:=hor.1
      have hlen:(l.take (min l.length n)).length=min l.length n:=by simp
      have hw:zh0 (c8 L) (off o) (c8 (l.take (min l.length n))) (c8 (zx L (off o) (l.take (min l.length n)))):=zbd _ (fun _=>rfl) L _ _ (by rw [hlen];exact h1)
      have hcl:(c8 (l.take (min l.length n))).length=min l.length n:=by simp [c8]
      have hst:=xj (P:=P) (b:=ρ k) (s:=b+off o) (el:=el0) (fz:=fz) (c8 (l.take (min l.length n))) 0 (zm ρ (a++SV.arr8 m L ::r')) w hblk hfz (by
        rw [yd];simp only [zm,SV.cells,List.length_append,hcl];have hcL:(c8 L).length=L.length:=by simp [c8]
        omega) hw.2.2
      have hsp:zx (zm ρ (a++SV.arr8 m L ::r')) (b+off o+0) (c8 (l.take (min l.length n)))=zm ρ (a++SV.arr8 m (zx L (off o) (l.take (min l.length n))) ::r'):=by
        rw [yd,yd,Nat.add_zero,←hla]
        simp only [zm,SV.cells]
        rw [zdv _ _ _ _ _ hw.2.1,←hw.1]
      rw [hsp] at hst
      have hok':okL (· <hp.length) (a++SV.arr8 m (zx L (off o) (l.take (min l.length n))) ::r'):=
        y4.2 ⟨hoa,by simp only [SV.ok];rw [yx _ _ _ (by rw [hlen];exact h1)];exact hLm,hor.2⟩
      have hlenc:(zm ρ (a++SV.arr8 m (zx L (off o) (l.take (min l.length n))) ::r')).length=(zm ρ (a++SV.arr8 m L ::r')).length:=by
        rw [←hsp,yx _ _ _ (by
         rw [yd];simp only [zm,SV.cells,List.length_append,hcl];have:(c8 L).length=L.length:=by simp [c8]
         omega)]
      refine ⟨.int (min l.length n:Nat),ρ,_,_,?_,trivial,Step.write (el0:=el0) (fz:=fz) hr hk hok' (by rw [hlenc];exact hfz),h⟩
      unfold Builtin.copy_
      have hm:Nat.min l.length n=min l.length n:=rfl
      have hu':P.underlying t=some (.slice e):=hu
      simp only [List.getElem?_toArray,List.getElem?_cons_zero,show ∀x y:Value,(#[x,y]:Array Value)[0]?=some x from fun _ _=>rfl,show ∀x y:Value,(#[x,y]:Array Value)[1]?=some y from fun _ _=>rfl,SV.den]
      simp only [Sem.run_bind,run_underlying hu',Result.andThen_ok,hl1,hm,yf hE,hsz,hl2 (min l.length n) (Nat.min_le_left _ _),hst,Sem.run_pure,goInt]
     ·exact h.elim
    ·exact h.elim
   ·exact h.elim
  ·exact h.elim
theorem zmf (v:Value) (n:Nat):Builtin.zeroCells #[v] n=(List.replicate n v).toArray:=by
  unfold Builtin.zeroCells
  apply Array.ext'
  simp
  apply List.ext_getElem?
  intro i
  rcases Nat.lt_or_ge i n with h|h
  ·simp [h,Nat.mod_one]
  ·simp [h]
theorem zek {t u ty e:TypeId} {ei:TyI} {du:TypeDesc} (hu:P.underlying t=some (.slice e)) (hdu:P.underlying u=some du) (hd2:du= .string∨ ∃e',du= .slice e') (hE:yp P e ei) (h1:ei.sz=1)
    (hb:ei.bytes=1) (z:UInt8) (hz:ei.zero= .u8 z) {A:Option Addr} {n c:Nat} {x:Value} {old new:List UInt8} (hx: ∀w',(∀a,w'.cell? a=w.cell? a)→(Builtin.lenOf x).run P w'= .ok new.length w'∧(Builtin.firstCells 1 new.length x).run P w'= .ok (c8 new).toArray w')
    (hold: ∀w',(∀a,w'.cell? a=w.cell? a)→(Builtin.firstCells 1 n (.slice A n c)).run P w'= .ok (c8 old).toArray w') (hgr:c<n+new.length) (hsize:n+new.length≤140737488355328):
    ∃(m:Nat) (w':World),(Builtin.append_ #[t,u] ty #[.slice A n c,x]).run P w= .ok (.slice (some ⟨w.heap.size,0,none⟩) (n+new.length) (n+new.length+m)) w'∧
     w'.heap=w.heap.push (.cells (c8 (old++new++List.replicate m z)).toArray e)∧w'.os=w.os∧w'.output=w.output∧w'.tape=w.tape:=by
  obtain ⟨info,i1,i2,i3,i4⟩:=hE.1
  have hti: ∀w,(typeInfo e).run P w= .ok info w:=fun w=>by simp only [typeInfo,Sem.run_bind,run_program,Result.andThen_ok,i1,Sem.run_pure]
  have hzv: ∀w,(zeroValue e).run P w= .ok (.int .u8 (z.toNat:Int)) w:=fun w=>by rw [zac (ρ:=fun k=>k) hE,hz];rfl
  have hcap: ¬(n+new.length≤c):=by omega
  have hmax: ¬(((n+new.length:Nat):Int)>IntKind.i64.max∧(False∨info.bytes=0)):=by rw [i3,hb];simp
  have hgrow: ¬(Builtin.nextslicecap (n+new.length) c*info.bytes>2^48):=by
    have:=growslice_fits (need:=n+new.length) (old:=c) (bytes:=1) hgr (by omega)
    rw [i3,hb];omega
  have hnf:(Question.appendCap (n+new.length) c e).forced=false:=rfl
  have hxl:=fun w' hw'=>(hx w' hw').1
  have hxc:=fun w' hw'=>(hx w' hw').2
  have hxl0:=hxl w (fun _=>rfl)
  refine ⟨w.tape w.drawn (Question.appendCap (n+new.length) c e)%(2^63-(n+new.length)),?_⟩
  generalize hm:w.tape w.drawn (Question.appendCap (n+new.length) c e)%(2^63-(n+new.length))=m
  refine ⟨({w with drawn:=w.drawn+1}:World).alloc (.cells (c8 (old++new++List.replicate m z)).toArray e),?_,rfl,rfl,rfl,rfl⟩
  have hold':=hold {w with drawn:=w.drawn+1} (fun _=>rfl)
  have hxc':=hxc {w with drawn:=w.drawn+1} (fun _=>rfl)
  have hsub:n+new.length+m-(n+new.length)=m:=by omega
  have hfin:(c8 old).toArray++(c8 new).toArray++(List.replicate m (Value.int .u8 (z.toNat:Int))).toArray=(c8 (old++new++List.replicate m z)).toArray:=by
    apply Array.ext';simp [c8]
  unfold Builtin.append_
  simp only [show ∀x y:Value,(#[x,y]:Array Value)[0]?=some x from fun _ _=>rfl,show ∀x y:Value,(#[x,y]:Array Value)[1]?=some y from fun _ _=>rfl,
    show ∀x y:TypeId,(#[x,y]:Array TypeId)[0]?=some x from fun _ _=>rfl,show ∀x y:TypeId,(#[x,y]:Array TypeId)[1]?=some y from fun _ _=>rfl]
  rcases hd2 with rfl|⟨e',rfl⟩
  all_goals
    simp only [Sem.run_bind,run_underlying hu,run_underlying hdu,Result.andThen_ok,yf hE,h1,Sem.run_pure,Bool.false_eq_true,if_false,hxl0,hcap,hti]
    rw [if_neg hmax]
    simp only [Sem.run_bind,hti,Result.andThen_ok,if_neg hgrow,run_choose,hnf,Bool.false_eq_true,if_false,Question.cut,hm,run_askRoom,hold',Bool.not_false,if_true,hxc',hzv,Sem.run_pure,newRow,run_newObj,Value.cells,hsub,zmf,hfin]
    rfl
theorem zel {t u ty e:TypeId} {ei:TyI} {du:TypeDesc} (hu:P.underlying t=some (.slice e)) (hdu:P.underlying u=some du) (hd2:du= .string∨ ∃e',du= .slice e') (hE:yp P e ei) (h1:ei.sz=1)
    {A:Option Addr} {n c:Nat} {x:Value} {new:List UInt8} (hxl:(Builtin.lenOf x).run P w= .ok new.length w) (hxc:(Builtin.firstCells 1 new.length x).run P w= .ok (c8 new).toArray w) (hroom:n+new.length≤c) {w':World}
    (hst: ∀a,A=some a→(storeCells (a.add (n*1)) (c8 new)).run P w= .ok () w') (hnone:A=none→w'=w):
    (Builtin.append_ #[t,u] ty #[.slice A n c,x]).run P w= .ok (.slice A (n+new.length) c) w':=by
  unfold Builtin.append_
  simp only [show ∀x y:Value,(#[x,y]:Array Value)[0]?=some x from fun _ _=>rfl,show ∀x y:Value,(#[x,y]:Array Value)[1]?=some y from fun _ _=>rfl,
    show ∀x y:TypeId,(#[x,y]:Array TypeId)[0]?=some x from fun _ _=>rfl,show ∀x y:TypeId,(#[x,y]:Array TypeId)[1]?=some y from fun _ _=>rfl]
  rcases hd2 with rfl|⟨e',rfl⟩
  all_goals
    simp only [Sem.run_bind,run_underlying hu,run_underlying hdu,Result.andThen_ok,yf hE,h1,Sem.run_pure,Bool.false_eq_true,if_false,hxl,hroom,if_true,Bool.not_false,hxc]
    cases A with
    |none=>rw [hnone rfl];rfl
    |some a=>simp only [Sem.run_bind,hst a rfl,Result.andThen_ok,Sem.run_pure]
theorem zl9 (L:List Value) (n:Nat):Builtin.zeroCells L.toArray n=((List.replicate n L).flatten).toArray:=by
  unfold Builtin.zeroCells
  apply Array.ext'
  simp only [Array.toList_map,Array.toList_range,List.size_toArray]
  induction n with
  |zero=>simp
  |succ n ih=>
   rw [Nat.succ_mul,List.range_add,List.map_append,ih,List.replicate_succ',List.flatten_append]
   congr 1
   simp only [List.flatten_cons,List.flatten_nil,List.append_nil,List.map_map]
   apply List.ext_getElem?
   intro j
   rw [List.getElem?_map]
   by_cases hj:j<L.length
   ·rw [List.getElem?_range hj,List.getElem?_eq_getElem hj]
    simp only [Option.map_some,Function.comp]
    have e:(n*L.length+j)%L.length=j:=by rw [Nat.add_comm,Nat.add_mul_mod_self_right,Nat.mod_eq_of_lt hj]
    simp [e,hj]
   ·rw [List.getElem?_eq_none (by simp;omega),List.getElem?_eq_none (by omega)];rfl
theorem zga {t u ty e e':TypeId} {ei:TyI} (hu:P.underlying t=some (.slice e)) (hdu:P.underlying u=some (.slice e')) (hE:yp P e ei) (hb:1≤ei.bytes)
    {A:Option Addr} {n c nx:Nat} {x:Value} {old new:List Value} (hx: ∀w',(∀a,w'.cell? a=w.cell? a)→(Builtin.lenOf x).run P w'= .ok nx w'∧(Builtin.firstCells ei.sz nx x).run P w'= .ok new.toArray w')
    (hold: ∀w',(∀a,w'.cell? a=w.cell? a)→(Builtin.firstCells ei.sz n (.slice A n c)).run P w'= .ok old.toArray w') (hgr:c<n+nx) (hsize:(n+nx)*ei.bytes≤140737488355328):
    ∃(m:Nat) (w':World),(Builtin.append_ #[t,u] ty #[.slice A n c,x]).run P w= .ok (.slice (some ⟨w.heap.size,0,none⟩) (n+nx) (n+nx+m)) w'∧
     w'.heap=w.heap.push (.cells (old++new++(List.replicate m (ei.zero.cells fun k=>k)).flatten).toArray e)∧w'.os=w.os∧w'.output=w.output∧w'.tape=w.tape:=by
  obtain ⟨info,i1,i2,i3,i4⟩:=hE.1
  have hti: ∀w,(typeInfo e).run P w= .ok info w:=fun w=>by simp only [typeInfo,Sem.run_bind,run_program,Result.andThen_ok,i1,Sem.run_pure]
  have hzv: ∀w,(zeroValue e).run P w= .ok (ei.zero.den fun k=>k) w:=fun w=>zac (ρ:=fun k=>k) hE w
  have hcap: ¬(n+nx≤c):=by omega
  have hmax: ¬(((n+nx:Nat):Int)>IntKind.i64.max∧(False∨info.bytes=0)):=by
    rw [i3];intro h;rcases h.2 with h|h
    ·exact h
    ·omega
  have hgrow: ¬(Builtin.nextslicecap (n+nx) c*info.bytes>2^48):=by
    have:=growslice_fits (need:=n+nx) (old:=c) (bytes:=ei.bytes) hgr hsize
    rw [i3];omega
  have hnf:(Question.appendCap (n+nx) c e).forced=false:=rfl
  have hxl:=fun w' hw'=>(hx w' hw').1
  have hxc:=fun w' hw'=>(hx w' hw').2
  have hxl0:=hxl w (fun _=>rfl)
  refine ⟨w.tape w.drawn (Question.appendCap (n+nx) c e)%(2^63-(n+nx)),?_⟩
  generalize hm:w.tape w.drawn (Question.appendCap (n+nx) c e)%(2^63-(n+nx))=m
  refine ⟨({w with drawn:=w.drawn+1}:World).alloc (.cells (old++new++(List.replicate m (ei.zero.cells fun k=>k)).flatten).toArray e),?_,rfl,rfl,rfl,rfl⟩
  have hold':=hold {w with drawn:=w.drawn+1} (fun _=>rfl)
  have hxc':=hxc {w with drawn:=w.drawn+1} (fun _=>rfl)
  have hsub:n+nx+m-(n+nx)=m:=by omega
  have hzc:(ei.zero.den fun k=>k).cells=(ei.zero.cells fun k=>k).toArray:=zcb _ _
  have hfin:old.toArray++new.toArray++((List.replicate m (ei.zero.cells fun k=>k)).flatten).toArray=(old++new++(List.replicate m (ei.zero.cells fun k=>k)).flatten).toArray:=by
    apply Array.ext';simp
  unfold Builtin.append_
  simp only [show ∀x y:Value,(#[x,y]:Array Value)[0]?=some x from fun _ _=>rfl,show ∀x y:Value,(#[x,y]:Array Value)[1]?=some y from fun _ _=>rfl,
    show ∀x y:TypeId,(#[x,y]:Array TypeId)[0]?=some x from fun _ _=>rfl,show ∀x y:TypeId,(#[x,y]:Array TypeId)[1]?=some y from fun _ _=>rfl]
  simp only [Sem.run_bind,run_underlying hu,run_underlying hdu,Result.andThen_ok,yf hE,Sem.run_pure,Bool.false_eq_true,if_false,hxl0,hcap,hti]
  rw [if_neg hmax]
  simp only [Sem.run_bind,hti,Result.andThen_ok,if_neg hgrow,run_choose,hnf,Bool.false_eq_true,if_false,Question.cut,hm,run_askRoom,hold',Bool.not_false,if_true,hxc',hzv,Sem.run_pure,newRow,run_newObj,hzc,hsub,zl9,hfin]
  rfl
theorem zmi {t u ty e e':TypeId} {ei:TyI} (hu:P.underlying t=some (.slice e)) (hdu:P.underlying u=some (.slice e')) (hE:yp P e ei)
    {A:Addr} {n c nx:Nat} {x:Value} {new:List Value} (hxl:(Builtin.lenOf x).run P w= .ok nx w) (hxc:(Builtin.firstCells ei.sz nx x).run P w= .ok new.toArray w) (hroom:n+nx≤c) {w':World}
    (hst:(storeCells (A.add (n*ei.sz)) new).run P w= .ok () w'):
    (Builtin.append_ #[t,u] ty #[.slice (some A) n c,x]).run P w= .ok (.slice (some A) (n+nx) c) w':=by
  unfold Builtin.append_
  simp only [show ∀x y:Value,(#[x,y]:Array Value)[0]?=some x from fun _ _=>rfl,show ∀x y:Value,(#[x,y]:Array Value)[1]?=some y from fun _ _=>rfl,
    show ∀x y:TypeId,(#[x,y]:Array TypeId)[0]?=some x from fun _ _=>rfl,show ∀x y:TypeId,(#[x,y]:Array TypeId)[1]?=some y from fun _ _=>rfl]
  simp only [Sem.run_bind,run_underlying hu,run_underlying hdu,Result.andThen_ok,yf hE,Sem.run_pure,Bool.false_eq_true,if_false,hxl,hroom,if_true,Bool.not_false,hxc,hst]
theorem zwt (hΓ:CtxOK P Γ) (hr:HpRel ρ hp w) {t u ty e e':TypeId} {ei:TyI} (hu:P.underlying t=some (.slice e)) (hdu:P.underlying u=some (.slice e')) (hE:yp P e ei) {s x:SV} {K:SV→List Blk→Prop} (h:zjq e ei s x hp K):
    Mem P ρ hp w K (Builtin.append_ #[t,u] ty #[s.den ρ,x.den ρ]):=by
  unfold zjq at h
  split at h
  ·rename_i kx jx bx ox nx cx
   unfold z0c at h
   have hh:=za2 h;clear h;obtain ⟨elx,psx,hkx,h⟩:=hh
   have hh:=zdk h;clear h;obtain ⟨ax,rx,hex,hbx,h⟩:=hh
   split at h
   ·rename_i px rx'
    have hcellx:=fun i=>hr.cell hkx i
    obtain ⟨hokx,_⟩:=hr.mem kx elx psx hkx
    rw [hex] at hokx hcellx
    obtain ⟨hoax,hopx⟩:=y4.1 hokx
    have hlax:(zm ρ ax).length=bx:=by rw [y8 ρ ax hoax,hbx]
    have hh:=zmx (p:=(· <hp.length)) (ρ:=ρ) h hopx.1;clear h;obtain ⟨new,h,hnok,hfit,hnc,hone⟩:=hh
    have hlen:(((px.cells ρ).drop (off ox)).take (nx*ei.sz)).length=nx*ei.sz:=by rw [List.length_take,List.length_drop];omega
    have hx: ∀w',(∀a,w'.cell? a=w.cell? a)→(Builtin.lenOf ((SV.sl kx jx bx ox nx cx).den ρ)).run P w'= .ok nx w'∧(Builtin.firstCells ei.sz nx ((SV.sl kx jx bx ox nx cx).den ρ)).run P w'= .ok (((px.cells ρ).drop (off ox)).take (nx*ei.sz)).toArray w':=by
      intro w' hw'
      refine ⟨rfl,?_⟩
      simp only [Builtin.firstCells,SV.den]
      have:=xq (P:=P) (w:=w') (b:=ρ kx) (s:=bx+off ox) (L:=zm ρ (ax++px ::rx')) (M:=((px.cells ρ).drop (off ox)).take (nx*ei.sz))
        (fun i=>by rw [hw',hcellx]) (fun i hi=>by
          rw [hlen] at hi
          have hx:off ox+i<(px.cells ρ).length:=by omega
          rw [Nat.add_assoc,List.getElem?_take_of_lt hi,List.getElem?_drop,List.getElem?_eq_getElem hx]
          exact zjm hlax (by rw [List.getElem?_eq_getElem hx]))
      rw [hlen] at this
      exact this
    generalize hNew:((px.cells ρ).drop (off ox)).take (nx*ei.sz)=New at*
    split at h
    ·obtain ⟨⟨h1,hb,hs⟩,h⟩:=zl h
     obtain ⟨m,w',g1,g2,g3,g4,g5⟩:=zga (P:=P) (w:=w) (ty:=ty) (A:=none) (n:=0) (c:=0) (old:= []) hu hdu hE hb hx (fun w' _=>by simp [Builtin.firstCells]) (by omega) (by rw [Nat.zero_add];exact hs)
     obtain ⟨tl,h,tok,tc⟩:=zun (p:=(· <hp.length)) (ρ:=fun k=>k) h hE.2.1.1 hE.2.1.2.2 m
     obtain ⟨r,h,rok,rcl⟩:=zj6 h hnok tok
     have h:=zj7 h
     have hc:zm ρ [r]=New++(List.replicate m (ei.zero.cells fun k=>k)).flatten:=by
       show r.cells ρ++ []=_
       rw [List.append_nil,rcl,hnc,tc]
     refine ⟨_,zer ρ hp.length w.heap.size,_,w',?_,zi5 _ _ _,Step.alloc (el0:=e) (fz:=(0,0)) (ps:= [r]) hr ⟨rok,trivial⟩ (by rw [hc];simpa using g2) (.inl (Nat.le_refl _)) g3 g4 g5,h⟩
     rw [zgj]
     rw [Nat.zero_add] at g1
     exact g1
    ·rename_i k n c
     have hh:=za2 h;clear h;obtain ⟨el,ps,hk,h⟩:=hh
     split at h
     ·rename_i q
      obtain ⟨⟨p1,p2,hb,p3⟩,h⟩:=zl h
      obtain ⟨hok,el0,fz,hblk,hfz⟩:=hr.mem k el _ hk
      have hqok:=hok.1
      have hcells:zm ρ [q]=q.cells ρ:=by show q.cells ρ++ []=_;simp
      rw [hcells] at hblk hfz
      have hql:(q.cells ρ).length=c*ei.sz:=by rw [SV.cells_length ρ q hqok,p2]
      obtain ⟨old,h,ook,ofit,oc,_⟩:=zmx (p:=(· <hp.length)) (ρ:=ρ) h hqok
      have oc: ∀ρ',old.cells ρ'=(q.cells ρ).take (n*ei.sz):=fun ρ'=>by rw [oc];rfl
      have hA:(⟨ρ k,0+off [],none⟩:Addr)=⟨ρ k,0,none⟩:=rfl
      have hNl:New.length=nx*ei.sz:=hlen
      by_cases hroom:n+nx≤c
      ·obtain ⟨tl,h,tok,tc⟩:=z25 (p:=(· <hp.length)) (ρ:=ρ) h hqok p2 hroom
       obtain ⟨r1,h,r1ok,r1c⟩:=zj6 h ook hnok
       obtain ⟨r,h,rok,rcl⟩:=zj6 h r1ok tok
       obtain ⟨hkl,hh⟩:=zc2 h
       have h:=zc0 (zbk hh)
       have hmul:(n+nx)*ei.sz=n*ei.sz+nx*ei.sz:=Nat.add_mul _ _ _
       have hrc: ∀ρ',r.cells ρ'=zx (q.cells ρ) (n*ei.sz) New:=fun ρ'=>by
         rw [rcl,r1c,oc,hnc,tc,hmul];unfold zx;rw [hNl]
       have hle:n*ei.sz+nx*ei.sz≤c*ei.sz:=by rw [←hmul];exact Nat.mul_le_mul_right _ hroom
       have hst:=xj (P:=P) (b:=ρ k) (s:=n*ei.sz) (el:=el0) (fz:=fz) New 0 (q.cells ρ) w hblk hfz (by rw [hNl,hql];omega) (by
         intro v hv
         exact hone v (by rw [hnc];exact hv))
       have hsp:zx (q.cells ρ) (n*ei.sz+0) New=r.cells ρ:=by rw [Nat.add_zero,hrc]
       rw [hsp] at hst
       have hcn:zm ρ [r]=r.cells ρ:=by show r.cells ρ++ []=_;simp
       have hls:(r.cells ρ).length=(q.cells ρ).length:=by rw [hrc];exact yx _ _ _ (by rw [hNl,hql];omega)
       have st1:=Step.write (el0:=el0) (fz:=fz) hr hk (ps':= [r]) ⟨rok,trivial⟩ (by rw [hcn,hls];exact hfz)
       have st2:=Step.move (el':=e) st1.rel (k:=k) (List.getElem?_set_self hkl)
       have st:=st1.trans st2
       have hset:(hp.set k (Blk.mk el [r])).set k Blk.dead=hp.set k Blk.dead:=by simp
       rw [hset,List.length_set] at st
       have hcc:n+nx+(c-(n+nx))=c:=by omega
       rw [hcc] at h
       refine ⟨_,_,_,_,?_,by simp [SV.ok],st,h⟩
       have hd:(SV.sl hp.length 0 0 [] (n+nx) c).den (zer ρ hp.length (ρ k))= .slice (some ⟨ρ k,0,none⟩) (n+nx) c:=by simp [SV.den,xg,off]
       rw [hd]
       have:=zmi (P:=P) (w:=w) (ty:=ty) (A:=⟨ρ k,0,none⟩) (n:=n) (c:=c) hu hdu hE (hx w (fun _=>rfl)).1 (hx w (fun _=>rfl)).2 hroom (w':=World.putAt w (ρ k) (.cells (r.cells ρ).toArray el0 fz)) (by rw [zbw,Nat.zero_add];exact hst)
       rw [show (SV.sl k 0 0 [] n c).den ρ= .slice (some ⟨ρ k,0,none⟩) n c from rfl,this,hcn]
      ·have hold: ∀w',(∀a,w'.cell? a=w.cell? a)→(Builtin.firstCells ei.sz n (.slice (some ⟨ρ k,0,none⟩) n c)).run P w'= .ok ((q.cells ρ).take (n*ei.sz)).toArray w':=by
         intro w' hw'
         simp only [Builtin.firstCells]
         have hol:((q.cells ρ).take (n*ei.sz)).length=n*ei.sz:=by
           rw [List.length_take,hql];exact Nat.min_eq_left (Nat.mul_le_mul_right _ p1)
         have:=xq (P:=P) (w:=w') (b:=ρ k) (s:=0) (L:=q.cells ρ) (M:=(q.cells ρ).take (n*ei.sz)) (fun i=>by rw [hw',hr.cell hk i,hcells]) (fun i hi=>by
           rw [hol] at hi
           rw [Nat.zero_add,List.getElem?_take_of_lt hi])
         rw [hol] at this;exact this
       obtain ⟨m',w',g1,g2,g3,g4,g5⟩:=zga (P:=P) (w:=w) (ty:=ty) (A:=some ⟨ρ k,0,none⟩) (n:=n) (c:=c) (old:=(q.cells ρ).take (n*ei.sz)) hu hdu hE hb hx hold (by omega) p3
       obtain ⟨tl,h,tok,tc⟩:=zun (p:=(· <hp.length)) (ρ:=fun k=>k) h hE.2.1.1 hE.2.1.2.2 m'
       obtain ⟨r1,h,r1ok,r1c⟩:=zj6 h ook hnok
       obtain ⟨r,h,rok,rcl⟩:=zj6 h r1ok tok
       obtain ⟨hkl,hh⟩:=zc2 h
       have h:=zc0 (zbk hh)
       have st1:=Step.kill hr k
       have hc: ∀ρ',zm ρ' [r]=(q.cells ρ).take (n*ei.sz)++New++(List.replicate m' (ei.zero.cells fun k=>k)).flatten:=fun ρ'=>by
         show r.cells ρ'++ []=_
         rw [List.append_nil,rcl,r1c,oc,hnc,tc]
       have st2:=Step.alloc (el:=e) (el0:=e) (fz:=(0,0)) (w':=w') (ps:= [r]) st1.rel (by rw [List.length_set];exact ⟨rok,trivial⟩) (by rw [hc];exact g2) (.inl (Nat.le_refl _)) g3 g4 g5
       have st:=st1.trans st2
       rw [List.length_set] at st
       refine ⟨_,_,_,_,?_,by simp [SV.ok],st,h⟩
       have hd:(SV.sl hp.length 0 0 [] (n+nx) (n+nx+m')).den (zer ρ hp.length w.heap.size)= .slice (some ⟨w.heap.size,0,none⟩) (n+nx) (n+nx+m'):=by simp [SV.den,xg,off]
       rw [hd,show (SV.sl k 0 0 [] n c).den ρ= .slice (some ⟨ρ k,0,none⟩) n c from rfl]
       exact g1
     ·exact h.elim
    ·exact h.elim
   ·exact h.elim
  ·exact h.elim
theorem zwm (hΓ:CtxOK P Γ) (hr:HpRel ρ hp w) {t u ty:TypeId} {s x:SV} {K:SV→List Blk→Prop} (h:zny Γ t u s x hp K):
    Mem P ρ hp w K (Builtin.append_ #[t,u] ty #[s.den ρ,x.den ρ]):=by
  unfold zny at h
  have hh:=zz h;clear h;obtain ⟨ti,ht,h⟩:=hh
  have hu:=(hΓ.ty t ti ht).2.2.1
  have hh:=zz h;clear h;obtain ⟨ui,hui,h⟩:=hh
  have hU:=(hΓ.ty u ui hui).2.2.1
  split at h
  ·rename_i e hdd
   rw [hdd] at hu
   have hdu:(∃du,P.underlying u=some du∧(du= .string∨ ∃e',du= .slice e')∧zg0 Γ e s x hp K)∨(∃e' ei,P.underlying u=some (.slice e')∧yp P e ei∧zjq e ei s x hp K):=by
     split at h
     ·rename_i hd;rw [hd] at hU;exact .inl ⟨_,hU,.inl rfl,h⟩
     ·rename_i hd;rw [hd] at hU
      have hh:=zz h;clear h;obtain ⟨ei,hei,h⟩:=hh
      split at h
      ·exact .inl ⟨_,hU,.inr ⟨_,rfl⟩,h⟩
      ·exact .inr ⟨_,ei,hU,hΓ.ty e ei hei,h⟩
     ·exact h.elim
   clear h
   rcases hdu with ⟨du,hdu,hd2,h⟩|⟨e',ei,hdu,hE,h⟩
   rotate_left
   ·exact zwt hΓ hr hu hdu hE h
   unfold zg0 at h
   have hh:=zz h;clear h;obtain ⟨ei,hei,h⟩:=hh
   have hE:=hΓ.ty e ei hei
   split at h
   ·rename_i z hz
    split at h
    ·rename_i hb
     have hb:=Nat.eq_of_beq_eq_true hb
     have hsz:ei.sz=1:=by have:=hE.2.1.2.2;rw [hz] at this;exact this.symm
     have hh:=zhy (P:=P) hr h;clear h;obtain ⟨new,h,_,hl⟩:=hh
     have hx: ∀w',(∀a,w'.cell? a=w.cell? a)→(Builtin.lenOf (x.den ρ)).run P w'= .ok new.length w'∧(Builtin.firstCells 1 new.length (x.den ρ)).run P w'= .ok (c8 new).toArray w':=
       fun w' hw'=>⟨(hl w' hw').1,by have:=(hl w' hw').2.1 new.length (Nat.le_refl _);rwa [List.take_length] at this⟩
     split at h
     ·by_cases h0:new.length=0
      ·have hk:=(zu h).1 (by simp [h0])
       refine Mem.same (v:= .nilsl) hr trivial hk ?_
       have:=zel (P:=P) (w:=w) (ty:=ty) (A:=none) (n:=0) (c:=0) hu hdu hd2 hE hsz (hx w (fun _=>rfl)).1 (hx w (fun _=>rfl)).2 (by omega) (w':=w) (fun a ha=>by cases ha) (fun _=>rfl)
       simp only [SV.den]
       rw [this,h0]
      ·obtain ⟨hs,h⟩:=zl ((zu h).2 (by simp [h0]))
       obtain ⟨m,w',g1,g2,g3,g4,g5⟩:=zek (P:=P) (w:=w) (ty:=ty) (A:=none) (n:=0) (c:=0) (old:= []) hu hdu hd2 hE hsz hb z hz hx (fun w' _=>rfl) (by omega) (by omega)
       have h:=zj7 (za4 h (List.replicate m z))
       have hc:zm ρ [SV.arr8 (new.length+(List.replicate m z).length) (new++List.replicate m z)]=c8 (new++List.replicate m z):=by simp [zm,SV.cells]
       refine ⟨_,zer ρ hp.length w.heap.size,_,w',?_,zi5 _ _ _,Step.alloc (el0:=e) (fz:=(0,0)) (ps:= [SV.arr8 (new.length+(List.replicate m z).length) (new++List.replicate m z)]) hr ⟨by simp [SV.ok],trivial⟩ (by rw [hc];simpa using g2) (.inl (Nat.le_refl _)) g3 g4 g5,h⟩
       rw [zgj]
       simp only [SV.den]
       rw [g1];simp
     ·rename_i k n c
      have hh:=za2 h;clear h;obtain ⟨el,ps,hk,h⟩:=hh
      split at h
      ·rename_i m l
       have hh:=zl h;clear h;obtain ⟨⟨p1,p2,p3⟩,h⟩:=hh
       obtain ⟨hok,el0,fz,hblk,hfz⟩:=hr.mem k el _ hk
       have hlm:l.length=m:=hok.1
       have hcells:zm ρ [SV.arr8 m l]=c8 l:=by simp [zm,SV.cells]
       rw [hcells] at hblk hfz
       have hA:(⟨ρ k,0+off [],none⟩:Addr)=⟨ρ k,0,none⟩:=rfl
       by_cases hroom:n+new.length≤c
       ·have hh:=za4 h (l.drop (n+new.length));clear h
        obtain ⟨hkl,hh⟩:=zc2 hh
        have h:=zc0 (zbk hh)
        have e1:l.take n++new++l.drop (n+new.length)=zx l n new:=rfl
        have e2:n+new.length+(l.drop (n+new.length)).length=l.length:=by simp;omega
        rw [e1,e2] at h
        have hst:=xj (P:=P) (b:=ρ k) (s:=n) (el:=el0) (fz:=fz) (c8 new) 0 (c8 l) w hblk hfz (by simp [c8];omega) (One.map _ (fun _=>rfl) new)
        have hsp:zx (c8 l) (n+0) (c8 new)=c8 (zx l n new):=by rw [Nat.add_zero];exact (zgq _ l n new).symm
        rw [hsp] at hst
        have hcn:zm ρ [SV.arr8 l.length (zx l n new)]=c8 (zx l n new):=by simp [zm,SV.cells]
        have hls:(zx l n new).length=l.length:=yx l n new (by omega)
        have st1:=Step.write (el0:=el0) (fz:=fz) hr hk (ps':= [SV.arr8 l.length (zx l n new)]) ⟨hls,trivial⟩ (by rw [hcn];simp [c8,hls] at hfz ⊢;exact hfz)
        have st2:=Step.move (el':=e) st1.rel (k:=k) (List.getElem?_set_self hkl)
        have st:=st1.trans st2
        have hset:(hp.set k (Blk.mk el [SV.arr8 l.length (zx l n new)])).set k Blk.dead=hp.set k Blk.dead:=by simp
        rw [hset,List.length_set] at st
        refine ⟨_,_,_,_,?_,by simp [SV.ok],st,h⟩
        have hd:(SV.sl hp.length 0 0 [] (n+new.length) l.length).den (zer ρ hp.length (ρ k))= .slice (some ⟨ρ k,0,none⟩) (n+new.length) l.length:=by simp [SV.den,xg,off]
        rw [hd]
        have:=zel (P:=P) (w:=w) (ty:=ty) (A:=some ⟨ρ k,0,none⟩) (n:=n) (c:=c) hu hdu hd2 hE hsz (hx w (fun _=>rfl)).1 (hx w (fun _=>rfl)).2 hroom (w':=World.putAt w (ρ k) (.cells (c8 (zx l n new)).toArray el0 fz)) (fun a ha=>by
          cases ha
          rw [zbw,Nat.zero_add,Nat.mul_one];exact hst) (fun hc=>by cases hc)
        simp only [SV.den,hA]
        rw [this,p2,hcn]
       ·have hold: ∀w',(∀a,w'.cell? a=w.cell? a)→(Builtin.firstCells 1 n (.slice (some ⟨ρ k,0,none⟩) n c)).run P w'= .ok (c8 (l.take n)).toArray w':=by
          intro w' hw'
          simp only [Builtin.firstCells,Nat.mul_one]
          have hlen:(c8 (l.take n)).length=n:=by simp [c8];omega
          have:=xq (P:=P) (w:=w') (b:=ρ k) (s:=0) (L:=c8 l) (M:=c8 (l.take n)) (fun i=>by rw [hw',hr.cell hk i,hcells]) (fun i hi=>by
            rw [hlen] at hi
            simp [c8,List.getElem?_take,hi])
          rw [hlen] at this;exact this
        obtain ⟨m',w',g1,g2,g3,g4,g5⟩:=zek (P:=P) (w:=w) (ty:=ty) (A:=some ⟨ρ k,0,none⟩) (n:=n) (c:=c) (old:=l.take n) hu hdu hd2 hE hsz hb z hz hx hold (by omega) (by omega)
        have hh:=za4 h (List.replicate m' z);clear h
        obtain ⟨hkl,hh⟩:=zc2 hh
        have h:=zc0 (zbk hh)
        have st1:=Step.kill hr k
        have hc:zm ρ [SV.arr8 (n+new.length+(List.replicate m' z).length) (l.take n++new++List.replicate m' z)]=c8 (l.take n++new++List.replicate m' z):=by simp [zm,SV.cells]
        have hln:(l.take n).length=n:=by simp;omega
        have st2:=Step.alloc (el:=e) (el0:=e) (fz:=(0,0)) (w':=w') (ps:= [SV.arr8 (n+new.length+(List.replicate m' z).length) (l.take n++new++List.replicate m' z)]) st1.rel ⟨by simp [SV.ok];omega,trivial⟩ (by rw [hc];exact g2) (.inl (Nat.le_refl _)) g3 g4 g5
        have st:=st1.trans st2
        rw [List.length_set] at st
        refine ⟨_,_,_,_,?_,by simp [SV.ok],st,h⟩
        have hd:(SV.sl hp.length 0 0 [] (n+new.length) (n+new.length+(List.replicate m' z).length)).den (zer ρ hp.length w.heap.size)= .slice (some ⟨w.heap.size,0,none⟩) (n+new.length) (n+new.length+m'):=by simp [SV.den,xg,off]
        rw [hd]
        simp only [SV.den,hA]
        exact g1
      ·exact h.elim
     ·exact h.elim
    ·exact h.elim
   ·exact h.elim
  ·exact h.elim
end
end Go.Sym

namespace Go.Sym
theorem x1: ∀{l:List Nat} {n:Nat},zaj l n=true↔n∈l
  | [],n=>by simp [zaj]
  |x ::xs,n=>by
   simp only [zaj]
   split
   ·rename_i e;have:=Nat.eq_of_beq_eq_true e;simp [this]
   ·rename_i e;have:=Nat.ne_of_beq_eq_false e;rw [x1];simp;intro h;exact absurd h.symm this
theorem zco {x:Nat} {xs:List Nat} (h:zdw (x ::xs)=true):x∉xs∧zdw xs=true:=by
  simp only [zdw] at h
  split at h
  ·cases h
  ·rename_i e;exact ⟨(fun hm=>by rw [x1.2 hm] at e;cases e),h⟩
theorem zig: ∀{l:List Nat} {n:Nat},n∈l→l[zcr l n]?=some n
  |x ::xs,n,h=>by
   simp only [zcr]
   split
   ·rename_i e;simp [Nat.eq_of_beq_eq_true e]
   ·rename_i e
    have hne:=Nat.ne_of_beq_eq_false e
    rcases List.mem_cons.1 h with rfl|h
    ·exact absurd rfl hne
    ·simpa using zig h
theorem zic: ∀{l:List Nat} {i j k:Nat},zdw l=true→l[i]?=some k→l[j]?=some k→i=j
  |x ::xs,0,0,_,_,_,_=>rfl
  |x ::xs,0,j+1,k,h,h1,h2=>by
   simp at h1 h2;subst h1
   exact absurd (List.mem_of_getElem? h2) (zco h).1
  |x ::xs,i+1,0,k,h,h1,h2=>by
   simp at h1 h2;subst h2
   exact absurd (List.mem_of_getElem? h1) (zco h).1
  |x ::xs,i+1,j+1,k,h,h1,h2=>by
   simp at h1 h2
   rw [zic (zco h).2 h1 h2]
theorem zcu: ∀{l:List Nat} {n i k:Nat},l[i]?=some k→fwd l n i=k
  |x ::xs,n,0,k,h=>by simp at h;simp [fwd,h]
  |x ::xs,n,i+1,k,h=>by
   have h':xs[i]?=some k:=by simpa using h
   exact zcu (l:=xs) h'
theorem zg3: ∀{l:List Nat} {n x:Nat},fwd l n (l.length+x)=n+x
  | [],n,x=>by simp [fwd]
  |y ::ys,n,x=>by
   rw [show (y ::ys).length+x=(ys.length+x)+1 by simp;omega]
   exact zg3 (l:=ys)
theorem Blk.ren_mk {g:Nat→Nat} {b:Blk} {el:TypeId} {ps:List SV} (h:b.ren g= .mk el ps): ∃ps0,b= .mk el ps0∧ps=zbo g ps0:=by
  cases b with
  |dead=>cases h
  |mk e q=>simp only [Blk.ren,Blk.mk.injEq] at h;exact ⟨q,by rw [h.1],h.2.symm⟩
theorem zti {g:Nat→Nat}: ∀{new hp:List Blk} {K:List Blk→Prop},znl.newK g new hp K→K (hp++new.map (Blk.ren g))
  | [],hp,K,h=>by
    have h':K hp:=h
    simpa using h'
  |b ::bs,hp,K,h=>by
   have:=zti (zbk h)
   rw [List.append_assoc] at this
   exact this
theorem zul {α:Type} (l:List α) (k:Nat→Prop):zhe l k=k l.length:=by
  unfold zhe
  split<;>rfl
theorem zuw {g:Nat→Nat}: ∀{ι:List Nat} {h' hp:List Blk} {K:List Blk→Prop},zdw ι=true→znl g ι h' hp K→
    ι.length≤h'.length∧ ∃hp',K hp'∧hp'.length=hp.length+(h'.length-ι.length)∧(∀k,k<hp.length→k∉ι→hp'[k]?=hp[k]?)∧
      (∀i k:Nat,∀b:Blk,ι[i]?=some k→h'[i]?=some b→hp'[k]?=some (b.ren g))∧(∀x:Nat,∀b:Blk,h'[ι.length+x]?=some b→hp'[hp.length+x]?=some (b.ren g))
  | [],h',hp,K,_,h=>by
    refine ⟨by simp,_,zti h,by simp,fun k hk _=>List.getElem?_append_left hk,fun i k b hi=>by simp at hi,fun x b hx=>?_⟩
    rw [List.getElem?_append_right (by omega)]
    simp at hx ⊢
    exact ⟨b,hx,rfl⟩
  |i ::is,[],hp,K,_,h=>h.elim
  |i ::is,b ::bs,hp,K,hn,h=>by
   obtain ⟨hni,hns⟩:=zco hn
   obtain ⟨hil,h⟩:=zc2 h
   obtain ⟨h1,hp',h2,h3,h4,h5,h6⟩:=zuw hns h
   refine ⟨by simpa using h1,hp',h2,by simp at h3 ⊢;omega,fun k hk hm=>?_,fun j k c hj hc=>?_,fun x c hx=>?_⟩
   ·rw [h4 k (by simpa using hk) (fun hm'=>hm (by simp [hm'])),List.getElem?_set_ne (fun e=>hm (by simp [e]))]
   ·cases j with
    |zero=>
     simp at hj hc
     subst hj;subst hc
     rw [h4 i (by simpa using hil) hni,List.getElem?_set_self hil]
    |succ j=>exact h5 j k c (by simpa using hj) (by simpa using hc)
   ·have:=h6 x c (by rw [show (i ::is).length+x=(is.length+x)+1 by simp;omega] at hx;simpa using hx)
    simpa using this
theorem zgt {hp:List Blk} {g:Nat→Nat} {ι0:List Nat}: ∀{ι:List Nat} {K:List Blk→Prop},zfs hp g ι0 ι K→
    ∃h:List Blk,K h∧h.length=ι.length∧(∀i k:Nat,ι[i]?=some k→k<hp.length)∧
     ∀(i k:Nat) (el:TypeId) (ps:List SV),ι[i]?=some k→h[i]?=some (.mk el ps)→ ∃ps0,hp[k]?=some (.mk el ps0)∧zgp (zaj ι0) ps0=true∧ps=zbo g ps0
  | [],K,h=>⟨[],h,rfl,fun i k hi=>by simp at hi,fun i k el ps hi=>by simp at hi⟩
  |j ::is,K,h=>by
   unfold zfs at h
   have hh:=zb0 h;clear h;obtain ⟨b,hb,h⟩:=hh
   have hjl:j<hp.length:=(List.getElem?_eq_some_iff.1 hb).1
   split at h
   ·rename_i el ps
    split at h
    ·rename_i hall
     obtain ⟨h',h1,h2,h3,h4⟩:=zgt h
     refine ⟨_,h1,by simp [h2],fun i k hi=>?_,fun i k el' ps' hi hm=>?_⟩
     ·cases i with
      |zero=>simp at hi;omega
      |succ i=>exact h3 i k (by simpa using hi)
     ·cases i with
      |zero=>simp at hi hm;subst hi;obtain ⟨rfl,rfl⟩:=hm;exact ⟨ps,hb,hall,rfl⟩
      |succ i=>exact h4 i k el' ps' (by simpa using hi) (by simpa using hm)
    ·exact h.elim
   ·obtain ⟨h',h1,h2,h3,h4⟩:=zgt h
    refine ⟨_,h1,by simp [h2],fun i k hi=>?_,fun i k el' ps' hi hm=>?_⟩
    ·cases i with
     |zero=>simp at hi;omega
     |succ i=>exact h3 i k (by simpa using hi)
    ·cases i with
     |zero=>simp at hm
     |succ i=>exact h4 i k el' ps' (by simpa using hi) (by simpa using hm)
mutual
theorem SV.all_of_ks {p:Nat→Prop}: ∀v:SV,v.ok p→v.ks= []→v.ok (fun _=>False)
  | .bool _,_,_=>trivial
  | .int _,_,_=>trivial
  | .u8 _,_,_=>trivial
  | .u16 _,_,_=>trivial
  | .u32 _,_,_=>trivial
  | .u64 _,_,_=>trivial
  | .str _,_,_=>trivial
  | .ptr ..,_,h=>by simp [SV.ks] at h
  | .nilptr,_,_=>trivial
  | .sl ..,_,h=>by simp [SV.ks] at h
  | .nilsl,_,_=>trivial
  | .func _ caps,h,h'=>by simp only [SV.ok,SV.ks] at h h' ⊢;exact zc7 caps h h'
  | .nilfn,_,_=>trivial
  | .nilif,_,_=>trivial
  | .xptr _,_,_=>trivial
  | .xsl ..,h,_=>h
  | .iface _ v,h,h'=>by simp only [SV.ok,SV.ks] at h h' ⊢;exact SV.all_of_ks v h h'
  | .arr8 _ _,h,_=>h
  | .arr32 _ _,h,_=>h
  | .arr64 _ _,h,_=>h
  | .arri _ _,h,_=>h
  | .arrs _ _,h,_=>h
  | .tab _ _ _,h,_=>h
  | .agg ps,h,h'=>by simp only [SV.ok,SV.ks] at h h' ⊢;exact zc7 ps h h'
  | .tup vs,h,h'=>by simp only [SV.ok,SV.ks] at h h' ⊢;exact zc7 vs h h'
theorem zc7 {p:Nat→Prop}: ∀vs:List SV,okL p vs→ksL vs= []→okL (fun _=>False) vs
  | [],_,_=>trivial
  |v ::vs,h,h'=>by
   simp only [ksL,List.append_eq_nil_iff] at h'
   exact ⟨SV.all_of_ks v h.1 h'.1,zc7 vs h.2 h'.2⟩
end
section
variable {P:Program} {ρ:Nat→Nat} {hp:List Blk} {w:World}
theorem zs0 (hr:HpRel ρ hp w) {f:FuncId} {S:Spec} (hS:zp P f S) {ι:List Nat} (hn:zdw ι=true) {args:List SV} (ha:okL (· <hp.length) args) (hall:zgp (zaj ι) args=true)
    {h:List Blk} (hl:h.length=ι.length) (hlt: ∀i k:Nat,ι[i]?=some k→k<hp.length)
    (hsub: ∀(i k:Nat) (el:TypeId) (ps:List SV),ι[i]?=some k→h[i]?=some (.mk el ps)→ ∃ps0,hp[k]?=some (.mk el ps0)∧zgp (zaj ι) ps0=true∧ps=zbo (zcr ι) ps0)
    {K:SV→List Blk→Prop} (hcall:S (zbo (zcr ι) args) h fun r h'=>znl (fwd ι hp.length) ι h' hp fun hp'=>K (r.ren (fwd ι hp.length)) hp'):
    zf4 P f (yu ρ args).toArray ρ hp w K:=by
  let ρ0:Nat→Nat:=fun j=>ρ (fwd ι hp.length j)
  have hback: ∀k,zaj ι k=true→fwd ι hp.length (zcr ι k)=k:=fun k hk=>zcu (zig (x1.1 hk))
  have hidx: ∀k,zaj ι k=true→zcr ι k<ι.length:=fun k hk=>(List.getElem?_eq_some_iff.1 (zig (x1.1 hk))).1
  have hcell: ∀qs:List SV,∀p:Nat→Prop,okL p qs→zgp (zaj ι) qs=true→zm ρ0 (zbo (zcr ι) qs)=zm ρ qs:=fun qs p hq hqa=>by
    rw [zas]
    exact xb (p:=fun k=>zaj ι k=true) (fun k hk=>by show ρ (fwd ι hp.length (zcr ι k))=ρ k;rw [hback k hk]) qs (zct qs hq hqa)
  have hden:yu ρ0 (zbo (zcr ι) args)=yu ρ args:=by
    rw [zda]
    exact zba (p:=fun k=>zaj ι k=true) (fun k hk=>by show ρ (fwd ι hp.length (zcr ι k))=ρ k;rw [hback k hk]) args (zct args ha hall)
  have hρ0: ∀i k,ι[i]?=some k→ρ0 i=ρ k:=fun i k hi=>by show ρ (fwd ι hp.length i)=ρ k;rw [zcu hi]
  have hι: ∀i,i<ι.length→ ∃k,ι[i]?=some k:=fun i hi=>⟨ι[i],List.getElem?_eq_getElem hi⟩
  have hrel:HpRel ρ0 h w:=by
    refine ⟨fun i el ps hi=>?_,fun i j el ps el' ps' hi hj he=>?_⟩
    ·have hil:i<ι.length:=by rw [←hl];exact (List.getElem?_eq_some_iff.1 hi).1
     obtain ⟨k,hk⟩:=hι i hil
     obtain ⟨ps0,h1,h2,h3⟩:=hsub i k el ps hk hi
     obtain ⟨g1,el',fz,g2,g3⟩:=hr.mem k el ps0 h1
     refine ⟨?_,el',fz,?_,?_⟩
     ·rw [h3,hl];exact zcp _ (fun k hk=>hidx k hk) ps0 (zct ps0 g1 h2)
     ·rw [hρ0 i k hk,h3,hcell ps0 _ g1 h2];exact g2
     ·rw [h3,hcell ps0 _ g1 h2];exact g3
    ·have hil:i<ι.length:=by rw [←hl];exact (List.getElem?_eq_some_iff.1 hi).1
     have hjl:j<ι.length:=by rw [←hl];exact (List.getElem?_eq_some_iff.1 hj).1
     obtain ⟨k,hk⟩:=hι i hil
     obtain ⟨k',hk'⟩:=hι j hjl
     obtain ⟨_,h1,_,_⟩:=hsub i k el ps hk hi
     obtain ⟨_,h1',_,_⟩:=hsub j k' el' ps' hk' hj
     rw [hρ0 i k hk,hρ0 j k' hk'] at he
     have:=hr.inj k k' _ _ _ _ h1 h1' he
     subst this
     exact zic hn hk hk'
  have hargs:okL (· <h.length) (zbo (zcr ι) args):=by rw [hl];exact zcp _ (fun k hk=>hidx k hk) args (zct args ha hall)
  have hout:=hS _ h _ hcall ρ0 w hrel hargs
  rw [hden] at hout
  refine hout.mono fun r ρ' h' w' ⟨hK,hrok,hst⟩=>?_
  obtain ⟨hle,hp',hK,hlen,hkeep,hset,hnew⟩:=zuw hn hK
  let ρ1:Nat→Nat:=fun k=>if k<hp.length then ρ k else ρ' (ι.length+(k-hp.length))
  have hfwd: ∀i,ρ1 (fwd ι hp.length i)=ρ' i:=by
    intro i
    rcases Nat.lt_or_ge i ι.length with hi|hi
    ·obtain ⟨k,hk⟩:=hι i hi
     rw [zcu hk]
     show (if k<hp.length then _ else _)=_
     rw [if_pos (hlt i k hk),hst.same i (by omega),hρ0 i k hk]
    ·obtain ⟨x,rfl⟩: ∃x,i=ι.length+x:=⟨i-ι.length,by omega⟩
     rw [zg3]
     show (if hp.length+x<hp.length then _ else _)=_
     rw [if_neg (by omega)]
     congr 1;omega
  have hfl: ∀i,i<h'.length→fwd ι hp.length i<hp'.length:=by
    intro i hi
    rcases Nat.lt_or_ge i ι.length with hi'|hi'
    ·obtain ⟨k,hk⟩:=hι i hi'
     rw [zcu hk];have:=hlt i k hk;omega
    ·obtain ⟨x,rfl⟩: ∃x,i=ι.length+x:=⟨i-ι.length,by omega⟩
     rw [zg3];omega
  have hcells: ∀qs:List SV,zm ρ1 (zbo (fwd ι hp.length) qs)=zm ρ' qs:=fun qs=>by
    rw [zas];congr 1;funext k;exact hfwd k
  have hfrom: ∀(k:Nat) (el:TypeId) (ps:List SV),hp'[k]?=some (.mk el ps)→
   (k<hp.length∧k∉ι∧hp[k]?=some (.mk el ps))∨ ∃(i:Nat) (ps0:List SV),h'[i]?=some (.mk el ps0)∧ps=zbo (fwd ι hp.length) ps0∧ρ1 k=ρ' i∧(i<ι.length→ι[i]?=some k)∧(ι.length≤i→k=hp.length+(i-ι.length)):=by
    intro k el ps hk
    have hkl:k<hp'.length:=(List.getElem?_eq_some_iff.1 hk).1
    rcases Nat.lt_or_ge k hp.length with hkh|hkh
    ·by_cases hm:k∈ι
     ·obtain ⟨i,hi⟩:=List.getElem?_of_mem hm
      have hil:i<ι.length:=(List.getElem?_eq_some_iff.1 hi).1
      have hb:h'[i]?=some (h'[i]'(by omega)):=List.getElem?_eq_getElem (by omega)
      have:=hset i k _ hi hb
      rw [hk] at this
      obtain ⟨ps0,e1,e2⟩:=Blk.ren_mk (Option.some.inj this).symm
      rw [e1] at hb
      refine .inr ⟨i,ps0,hb,e2,?_,fun _=>hi,fun h=>by omega⟩
      rw [←hfwd i,zcu hi]
     ·exact .inl ⟨hkh,hm,by rw [←hkeep k hkh hm];exact hk⟩
    ·obtain ⟨x,rfl⟩: ∃x,k=hp.length+x:=⟨k-hp.length,by omega⟩
     have hb:h'[ι.length+x]?=some (h'[ι.length+x]'(by omega)):=List.getElem?_eq_getElem (by omega)
     have:=hnew x _ hb
     rw [hk] at this
     obtain ⟨ps0,e1,e2⟩:=Blk.ren_mk (Option.some.inj this).symm
     rw [e1] at hb
     refine .inr ⟨ι.length+x,ps0,hb,e2,?_,fun h=>by omega,fun _=>by omega⟩
     rw [←hfwd,zg3]
  have hfoot0: ∀b,zfc ρ0 h b→ ∃(i k:Nat) (el:TypeId) (ps:List SV),ι[i]?=some k∧hp[k]?=some (.mk el ps)∧ρ k=b:=by
    rintro b ⟨i,el,ps,hi,rfl⟩
    have hil:i<ι.length:=by rw [←hl];exact (List.getElem?_eq_some_iff.1 hi).1
    obtain ⟨k,hk⟩:=hι i hil
    obtain ⟨ps0,h1,_,_⟩:=hsub i k el ps hk hi
    exact ⟨i,k,el,ps0,hk,h1,(hρ0 i k hk).symm⟩
  have hfootT: ∀b,zfc ρ0 h b→zfc ρ hp b:=fun b hb=>by
    obtain ⟨i,k,el,ps,_,h1,h2⟩:=hfoot0 b hb
    exact ⟨k,el,ps,h1,h2⟩
  have hout0: ∀(k:Nat) (el:TypeId) (ps:List SV),hp[k]?=some (.mk el ps)→k∉ι→ ¬zfc ρ0 h (ρ k):=by
    intro k el ps hk hm hf
    obtain ⟨i,k',el',ps',hi,h1,h2⟩:=hfoot0 _ hf
    have:=hr.inj k' k _ _ _ _ h1 hk h2
    subst this
    exact hm (List.mem_of_getElem? hi)
  have hρ1: ∀k,k<hp.length→ρ1 k=ρ k:=fun k hk=>by show (if k<hp.length then _ else _)=_;rw [if_pos hk]
  have hlenle:hp.length≤hp'.length:=by omega
  refine ⟨r.ren (fwd ι hp.length),ρ1,hp',?_,hK,?_,⟨⟨?_,?_⟩,hρ1,hlenle,hst.ext.mono hfootT,?_⟩⟩
  ·rw [SV.den_ren];congr 1;funext k;exact hfwd k
  ·exact SV.ok_ren _ hfl r hrok
  ·intro k el ps hk
   rcases hfrom k el ps hk with ⟨hkh,hm,hk0⟩|⟨i,ps0,hi,rfl,he,_,_⟩
   ·obtain ⟨g1,el',fz,g2,g3⟩:=hr.mem k el ps hk0
    have hc:zm ρ1 ps=zm ρ ps:=xb (p:=(· <hp.length)) (fun k hk=>hρ1 k hk) ps g1
    refine ⟨ym (fun x hx=>Nat.lt_of_lt_of_le hx hlenle) ps g1,el',fz,?_,?_⟩
    ·rw [hρ1 k hkh,hc,hst.ext.keep _ (hr.lt hk0) (hout0 k el ps hk0 hm)];exact g2
    ·rw [hc];exact g3
   ·obtain ⟨g1,el',fz,g2,g3⟩:=hst.rel.mem i el ps0 hi
    refine ⟨zcp _ hfl ps0 g1,el',fz,?_,?_⟩
    ·rw [he,hcells];exact g2
    ·rw [hcells];exact g3
  ·intro k k' el ps el' ps' hk hk' he
   rcases hfrom k el ps hk with ⟨hkh,hm,hk0⟩|⟨i,ps0,hi,_,e1,e2,e3⟩<;>rcases hfrom k' el' ps' hk' with ⟨hkh',hm',hk0'⟩|⟨i',ps0',hi',_,e1',e2',e3'⟩
   ·rw [hρ1 k hkh,hρ1 k' hkh'] at he;exact hr.inj k k' _ _ _ _ hk0 hk0' he
   ·rw [hρ1 k hkh,e1'] at he
    rcases hst.foot (ρ' i') ⟨i',_,_,hi',rfl⟩ with hf|hf
    ·exact absurd (he ▸ hf) (hout0 k el ps hk0 hm)
    ·have:=hr.lt hk0;omega
   ·rw [hρ1 k' hkh',e1] at he
    rcases hst.foot (ρ' i) ⟨i,_,_,hi,rfl⟩ with hf|hf
    ·exact absurd (he ▸ hf) (hout0 k' el' ps' hk0' hm')
    ·have:=hr.lt hk0';omega
   ·rw [e1,e1'] at he
    have:=hst.rel.inj i i' _ _ _ _ hi hi' he
    subst this
    rcases Nat.lt_or_ge i ι.length with hil|hil
    ·have a:=e2 hil;have b:=e2' hil;rw [a] at b;exact Option.some.inj b
    ·rw [e3 hil,e3' hil]
  ·rintro b ⟨k,el,ps,hk,rfl⟩
   rcases hfrom k el ps hk with ⟨hkh,hm,hk0⟩|⟨i,ps0,hi,_,e1,_,_⟩
   ·rw [hρ1 k hkh];exact .inl ⟨k,el,ps,hk0,rfl⟩
   ·rw [e1]
    rcases hst.foot (ρ' i) ⟨i,_,_,hi,rfl⟩ with hf|hf
    ·exact .inl (hfootT _ hf)
    ·exact .inr hf
theorem z20 (hr:HpRel ρ hp w) {f:FuncId} {S:Spec} (hS:zp P f S) {args:List SV} (ha:okL (· <hp.length) args) {K:SV→List Blk→Prop} (h:zx9 S args hp K):
    zf4 P f (yu ρ args).toArray ρ hp w K:=by
  unfold zx9 at h
  split at h
  ·rename_i hk
   have h0:=zc7 args ha hk
   have hrel:HpRel ρ [] w:=⟨fun k el ps hk=>by simp at hk,fun k k' el ps el' ps' hk=>by simp at hk⟩
   have hout:=hS args [] _ h ρ w hrel (ym (fun _ hf=>hf.elim) args h0)
   refine hout.mono fun r ρ' h' w' ⟨hK,hrok,hst⟩=>?_
   have hext:Ext (zfc ρ hp) w w':=hst.ext.mono (fun b ⟨k,_,_,hk,_⟩=>by simp at hk)
   have hkeep: ∀(k:Nat) (el:TypeId) (ps:List SV),hp[k]?=some (.mk el ps)→w'.heap[ρ k]?=w.heap[ρ k]?:=fun k el ps hk=>hst.ext.keep _ (hr.lt hk) (fun ⟨k,_,_,hk,_⟩=>by simp at hk)
   dsimp only at hK
   split at hK
   ·split at hK
    ·rename_i hkr
     have hr0:r.ok (fun _=>False):=SV.all_of_ks r hrok (by simpa [ksL] using hkr)
     refine ⟨r,ρ,hp,SV.den_congr (fun _ hf=>hf.elim) r hr0,hK,SV.ok_mono (fun _ hf=>hf.elim) r hr0,⟨⟨fun k el ps hk=>?_,hr.inj⟩,fun _ _=>rfl,Nat.le_refl _,hext,fun b hb=> .inl hb⟩⟩
     obtain ⟨g1,el',fz,g2,g3⟩:=hr.mem k el ps hk
     exact ⟨g1,el',fz,by rw [hkeep k el ps hk];exact g2,g3⟩
    ·exact hK.elim
   ·have hK:=zc0 hK
    have h1:=zti hK
    clear hK
    let ρ1:Nat→Nat:=fun k=>if k<hp.length then ρ k else ρ' (k-hp.length)
    have hρ1: ∀k,k<hp.length→ρ1 k=ρ k:=fun k hk=>by show (if k<hp.length then _ else _)=_;rw [if_pos hk]
    have hρ2: ∀i,ρ1 (hp.length+i)=ρ' i:=fun i=>by show (if hp.length+i<hp.length then _ else _)=_;rw [if_neg (by omega)];congr 1;omega
    have hcells: ∀qs:List SV,zm ρ1 (zbo (fun i=>hp.length+i) qs)=zm ρ' qs:=fun qs=>by rw [zas];congr 1;funext k;exact hρ2 k
    have hlen:(hp++h'.map (Blk.ren fun i=>hp.length+i)).length=hp.length+h'.length:=by simp
    have hfrom: ∀(k:Nat) (el:TypeId) (ps:List SV),(hp++h'.map (Blk.ren fun i=>hp.length+i))[k]?=some (.mk el ps)→
     (k<hp.length∧hp[k]?=some (.mk el ps))∨ ∃(i:Nat) (ps0:List SV),h'[i]?=some (.mk el ps0)∧ps=zbo (fun i=>hp.length+i) ps0∧k=hp.length+i:=by
      intro k el ps hk
      rcases Nat.lt_or_ge k hp.length with hkl|hkl
      ·rw [List.getElem?_append_left hkl] at hk;exact .inl ⟨hkl,hk⟩
      ·rw [List.getElem?_append_right hkl,List.getElem?_map] at hk
       cases hb:h'[k-hp.length]? with
       |none=>rw [hb] at hk;simp at hk
       |some b=>
        rw [hb] at hk
        obtain ⟨ps0,e1,e2⟩:=Blk.ren_mk (Option.some.inj hk)
        exact .inr ⟨k-hp.length,ps0,by rw [hb,e1],e2,by omega⟩
    refine ⟨_,ρ1,_,?_,h1,?_,⟨⟨fun k el ps hk=>?_,fun k k' el ps el' ps' hk hk' he=>?_⟩,hρ1,by omega,hext,?_⟩⟩
    ·rw [SV.den_ren];congr 1;funext k;exact hρ2 k
    ·rw [hlen];exact SV.ok_ren _ (fun k hk=>by omega) r hrok
    ·rcases hfrom k el ps hk with ⟨hkl,hk0⟩|⟨i,ps0,hi,rfl,rfl⟩
     ·obtain ⟨g1,el',fz,g2,g3⟩:=hr.mem k el ps hk0
      have hc:zm ρ1 ps=zm ρ ps:=xb (p:=(· <hp.length)) (fun k hk=>hρ1 k hk) ps g1
      exact ⟨ym (fun x hx=>by rw [hlen];omega) ps g1,el',fz,by rw [hρ1 k hkl,hc,hkeep k el ps hk0];exact g2,by rw [hc];exact g3⟩
     ·obtain ⟨g1,el',fz,g2,g3⟩:=hst.rel.mem i el ps0 hi
      exact ⟨zcp _ (fun k hk=>by rw [hlen];omega) ps0 g1,el',fz,by rw [hρ2,hcells];exact g2,by rw [hcells];exact g3⟩
    ·rcases hfrom k el ps hk with ⟨hkl,hk0⟩|⟨i,ps0,hi,_,rfl⟩<;>rcases hfrom k' el' ps' hk' with ⟨hkl',hk0'⟩|⟨i',ps0',hi',_,rfl⟩
     ·rw [hρ1 k hkl,hρ1 k' hkl'] at he;exact hr.inj k k' _ _ _ _ hk0 hk0' he
     ·rw [hρ1 k hkl,hρ2] at he
      rcases hst.foot (ρ' i') ⟨i',_,_,hi',rfl⟩ with ⟨_,_,_,hf,_⟩|hf
      ·simp at hf
      ·have:=hr.lt hk0;omega
     ·rw [hρ1 k' hkl',hρ2] at he
      rcases hst.foot (ρ' i) ⟨i,_,_,hi,rfl⟩ with ⟨_,_,_,hf,_⟩|hf
      ·simp at hf
      ·have:=hr.lt hk0';omega
     ·rw [hρ2,hρ2] at he
      rw [hst.rel.inj i i' _ _ _ _ hi hi' he]
    ·rintro b ⟨k,el,ps,hk,rfl⟩
     rcases hfrom k el ps hk with ⟨hkl,hk0⟩|⟨i,ps0,hi,_,rfl⟩
     ·rw [hρ1 k hkl];exact .inl ⟨k,el,ps,hk0,rfl⟩
     ·rw [hρ2]
      rcases hst.foot (ρ' i) ⟨i,_,_,hi,rfl⟩ with ⟨_,_,_,hf,_⟩|hf
      ·simp at hf
      ·exact .inr hf
  ·have reach: ∀(fuel:Nat) (todo seen:List Nat) (K0:List Nat→Prop),zi0 hp fuel todo seen K0→ ∃ι,K0 ι:=by
     intro fuel
     induction fuel with
     |zero=>intro _ _ _ h;cases h
     |succ fuel ih=>
      intro todo seen K0 h
      cases todo with
      |nil=>exact ⟨_,h⟩
      |cons k todo=>
       simp only [zi0] at h
       split at h
       ·exact ih _ _ _ h
       ·obtain ⟨b,_,h⟩:=zb0 h
        split at h
        ·exact ih _ _ _ (zd3 (zbk h))
        ·exact ih _ _ _ (zbk h)
   have hh:=reach _ _ _ _ h;clear h;obtain ⟨ι,h⟩:=hh
   split at h
   ·rename_i hn
    split at h
    ·rename_i hall
     have hh:=zgt h;clear h;obtain ⟨h0,h,hl,hlt,hsub⟩:=hh
     simp only [zul] at h
     exact zs0 hr hS hn ha hall hl hlt hsub h
    ·exact h.elim
   ·exact h.elim
end
end Go.Sym

namespace Go.Sym
section
variable {P:Program} {Γ:Ctx} {ρ:Nat→Nat} {hp:List Blk} {w:World} {tm:List (Nat×SV)} {a:Act} {nb:Nat}
def xh (P:Program) (n:Nat) (o:Oper) (a:Act) (ρ:Nat→Nat) (k:SV→Prop):Prop:=
  ∃v,k v∧v.ok (· <n)∧ ∀w,(execOp a.eval o).run P w= .ok (.value (v.den ρ)) w
def zf3 (P:Program) (E:World→Prop) (n:Nat) (o:Oper) (a:Act) (ρ:Nat→Nat) (w:World) (k:SV→Prop):Prop:=
  ∃v,k v∧v.ok (· <n)∧(E w→(execOp a.eval o).run P w= .ok (.value (v.den ρ)) w)
def zhu (P:Program) (n m:Nat) (o:Oper) (a:Act) (ρ:Nat→Nat) (k:SV→Blk→Prop):Prop:=
  ∃v el ps,k v (.mk el ps)∧v.ok (· =m)∧okL (· <n) ps∧
   ∀(ρ1:Nat→Nat) w,ρ1 m=w.heap.size→(execOp a.eval o).run P w= .ok (.value (v.den ρ1)) (w.alloc (.cells (zm ρ ps).toArray el))
theorem xh.v {o:Oper} {k:SV→Prop} {v:SV} (hs: ∀w,(execOp a.eval o).run P w= .ok (.value (v.den ρ)) w) (hv:v.ok (· <nb)) (hk:k v):xh P nb o a ρ k:=⟨v,hk,hv,hs⟩
theorem zf3.v {E:World→Prop} {o:Oper} {k:SV→Prop} {v:SV} (hs:(execOp a.eval o).run P w= .ok (.value (v.den ρ)) w) (hv:v.ok (· <nb)) (hk:k v):zf3 P E nb o a ρ w k:=⟨v,hk,hv,fun _=>hs⟩
theorem zah (A:Addr) (w:World):(Instr.sureAddr (.pointer (some A))).run P w= .ok A w:=rfl
theorem zo5 {xs:Array Operand} {vs:List SV} (h:xs.toList.map a.eval=yu ρ vs):xs.map a.eval=(yu ρ vs).toArray:=by
  apply Array.ext';simp [h]
theorem zli: ∀{vs:List SV} {i:Nat} {v:SV},vs[i]?=some v→(yu ρ vs)[i]?=some (v.den ρ)
  |x ::xs,0,v,h=>by simp at h;simp [yu,h]
  |x ::xs,i+1,v,h=>by simp at h;simpa [yu] using zli h
theorem zoa {p:Nat→Prop}: ∀{vs:List SV} {i:Nat} {v:SV},okL p vs→vs[i]?=some v→v.ok p
  |x ::xs,0,v,ho,h=>by simp at h;rw [←h];exact ho.1
  |x ::xs,i+1,v,ho,h=>by simp at h;exact zoa ho.2 h
theorem zq7 (x y:List SV):yu ρ (x++y)=yu ρ x++yu ρ y:=by
  induction x with
  |nil=>rfl
  |cons v vs ih=>simp [yu,ih]
variable (dst:Option Nat) (type:TypeId) (pos:String) (after:Array Edge) (guard:Option (Nat×Bool))
theorem zv7 (hΓ:CtxOK P Γ) (ht:TmRel Γ.nt ρ nb tm a) (x:Operand) {K:SV→Prop} (h:xd Γ (.move x) tm K):
    xh P nb ⟨dst,.move x,type,pos,after,guard⟩ a ρ K:=by
  unfold xd at h
  dsimp only at h
  have hh:=xp ht h;clear h;obtain ⟨v,h1,h2,h⟩:=hh
  exact .v (fun w=>by simp only [execOp,Sem.run_pure,h2]) h1 h
theorem zqi (hΓ:CtxOK P Γ) (ht:TmRel Γ.nt ρ nb tm a) (x:Operand) {K:SV→Prop} (h:xd Γ (.assign x) tm K):
    xh P nb ⟨dst,.assign x,type,pos,after,guard⟩ a ρ K:=by
  unfold xd at h
  dsimp only at h
  have hh:=xp ht h;clear h;obtain ⟨v,h1,h2,h⟩:=hh
  exact .v (fun w=>by simp only [execOp,Sem.run_pure,h2]) h1 h
theorem zvz (hΓ:CtxOK P Γ) (ht:TmRel Γ.nt ρ nb tm a) (c x y:Operand) {K:SV→Prop} (h:xd Γ (.pick c x y) tm K):
    xh P nb ⟨dst,.pick c x y,type,pos,after,guard⟩ a ρ K:=by
  unfold xd at h
  dsimp only at h
  have hh:=xp ht h;clear h;obtain ⟨cv,cv0,c2,h⟩:=hh
  have hh:=xp ht h;clear h;obtain ⟨av,a1,a2,h⟩:=hh
  have hh:=xp ht h;clear h;obtain ⟨bv,b1,b2,h⟩:=hh
  split at h
  ·rename_i t
   have hc: ∀w,(asBool (a.eval c)).run P w= .ok t w:=fun w=>by rw [c2];rfl
   obtain ⟨h1,h2⟩:=zu h
   cases t with
   |true=>exact .v (v:=av) (fun w=>by simp only [execOp,Sem.run_bind,hc,Result.andThen_ok,Sem.run_pure,if_true,a2]) a1 (h1 rfl)
   |false=>exact .v (v:=bv) (fun w=>by simp only [execOp,Sem.run_bind,hc,Result.andThen_ok,Sem.run_pure,Bool.false_eq_true,if_false,b2]) b1 (h2 rfl)
  ·exact h.elim
theorem zs4 (hΓ:CtxOK P Γ) (ht:TmRel Γ.nt ρ nb tm a) (t:TypeId) (ps:Array (Nat×Operand)) {K:SV→Prop} (h:xd Γ (.build t ps) tm K):
    xh P nb ⟨dst,.build t ps,type,pos,after,guard⟩ a ρ K:=by
  unfold xd at h
  dsimp only at h
  have hh:=zni ht h;clear h;obtain ⟨given,g1,g2,h⟩:=hh
  have hh:=zw3 (ρ:=ρ) hΓ g1 h;clear h;obtain ⟨v,h,hok,hrun⟩:=hh
  have e:(ps.map fun (i,x)=>(i,a.eval x))=(given.map fun g=>(g.1,g.2.den ρ)).toArray:=by
    apply Array.ext';simp only [Array.toList_map];exact g2
  refine .v ?_ hok h
  intro w
  simp only [execOp,Sem.run_bind]
  rw [e,hrun w];rfl
theorem zml (hΓ:CtxOK P Γ) (ht:TmRel Γ.nt ρ nb tm a) (x:Operand) {K:SV→Prop} (h:xd Γ (.nilCheck x) tm K):
    xh P nb ⟨dst,.nilCheck x,type,pos,after,guard⟩ a ρ K:=by
  unfold xd at h
  dsimp only at h
  have hh:=xp ht h;clear h;obtain ⟨v,h1,h2,h⟩:=hh
  split at h
  ·exact .v (fun w=>by simp only [execOp,h2,SV.den,Sem.run_pure]) h1 h
  ·exact .v (fun w=>by simp only [execOp,h2,SV.den,Sem.run_pure]) h1 h
  ·exact .v (fun w=>by simp only [execOp,h2,SV.den,Sem.run_pure]) h1 h
  ·exact h.elim
theorem ztg (hΓ:CtxOK P Γ) (ht:TmRel Γ.nt ρ nb tm a) (op:BinOp) (t:TypeId) (x y:Operand) (t':TypeId) {K:SV→Prop} (h:xd Γ (.binOp op t x y t') tm K):
    xh P nb ⟨dst,.binOp op t x y t',type,pos,after,guard⟩ a ρ K:=by
  unfold xd at h
  dsimp only at h
  have hh:=xp ht h;clear h;obtain ⟨v,v1,v2,h⟩:=hh
  have hh:=xp ht h;clear h;obtain ⟨u,u1,u2,h⟩:=hh
  have hh:=z2w (ρ:=ρ) hΓ v1 u1 h;clear h;obtain ⟨r,h,hok,hrun⟩:=hh
  refine .v ?_ (hok _) h
  intro w
  have:=hrun x y w
  simp only [execOp,v2,u2]
  rw [Sem.run_bind,this];rfl
theorem zwl (hΓ:CtxOK P Γ) (ht:TmRel Γ.nt ρ nb tm a) (op:UnOp) (t:TypeId) (x:Operand) {K:SV→Prop} (h:xd Γ (.unOp op t x) tm K):
    xh P nb ⟨dst,.unOp op t x,type,pos,after,guard⟩ a ρ K:=by
  unfold xd at h
  dsimp only at h
  have hh:=xp ht h;clear h;obtain ⟨v,v1,v2,h⟩:=hh
  have hh:=z7r (P:=P) (ρ:=ρ) h;clear h;obtain ⟨r,h,hok,hrun⟩:=hh
  refine .v ?_ (hok _) h
  intro w
  simp only [execOp,v2,Sem.run_bind,hrun,Result.andThen_ok,Sem.run_pure]
theorem zmh (ht:TmRel Γ.nt ρ nb tm a) (fn:Fn) (first caps:Array Operand) {K:SV→Prop} (h:xd Γ (.makeFunc fn first caps) tm K):
    xh P nb ⟨dst,.makeFunc fn first caps,type,pos,after,guard⟩ a ρ K:=by
  unfold xd at h
  dsimp only at h
  have hh:=zsh ht h;clear h;obtain ⟨vs,va,ve,h⟩:=hh
  have hc:=zo5 ve
  split at h
  ·rename_i f
   split at h
   ·rename_i hf
    have hf0:first= #[]:=by apply Array.ext';rw [hf]
    refine .v (v:= .func f vs) (fun w=>?_) va h
    simp only [execOp,hc,hf0,Instr.makeFunc,Sem.run_pure,Sem.run_bind,Result.andThen_ok,SV.den]
    simp
   ·exact h.elim
  ·exact h.elim
theorem zst (hΓ:CtxOK P Γ) (ht:TmRel Γ.nt ρ nb tm a) (t:TypeId) (x:Operand) (lo hi mx:Option Operand) {K:SV→Prop} (h:xd Γ (.slice t x lo hi mx) tm K):
    xh P nb ⟨dst,.slice t x lo hi mx,type,pos,after,guard⟩ a ρ K:=by
  unfold xd at h
  dsimp only at h
  have hh:=xp ht h;clear h;obtain ⟨v,v1,v2,h⟩:=hh
  have hh:=zi2 ht h;clear h;obtain ⟨l,h,hl⟩:=hh
  have hh:=zi2 ht h;clear h;obtain ⟨hh,h,hhh⟩:=hh
  have hh:=zi2 ht h;clear h;obtain ⟨m,h,hm⟩:=hh
  have hh:=z0o (ρ:=ρ) hΓ hl hhh hm v1 h;clear h;obtain ⟨r,h,hok,hrun⟩:=hh
  refine .v ?_ hok h
  intro w
  simp only [execOp,v2,Sem.run_bind,hrun,Result.andThen_ok,Sem.run_pure]
theorem zr2 (hΓ:CtxOK P Γ) (ht:TmRel Γ.nt ρ nb tm a) (s:TypeId) (x:Operand) (f:Nat) {K:SV→Prop} (h:xd Γ (.field s x f) tm K):
    xh P nb ⟨dst,.field s x f,type,pos,after,guard⟩ a ρ K:=by
  unfold xd at h
  dsimp only at h
  have hh:=zz h;clear h;obtain ⟨si,hsi,h⟩:=hh
  have hS:=(hΓ.ty s si hsi).2.2.1
  split at h
  ·rename_i fs hd
   rw [hd] at hS
   obtain ⟨flds,hu,hfs,_⟩:=hS
   have hh:=zb0 h;clear h;obtain ⟨ft,hft,h⟩:=hh
   have hh:=zz h;clear h;obtain ⟨fi,hfi,h⟩:=hh
   have hF:=hΓ.ty _ fi hfi
   have hfld: ∃fd,flds[f]?=some fd∧ft=(fd.offset,fd.type):=by
     rw [←hfs,List.getElem?_map] at hft
     cases hq:flds.toList[f]? with
     |none=>rw [hq] at hft;simp at hft
     |some fd=>rw [hq] at hft;exact ⟨fd,by simpa using hq,(Option.some.inj hft).symm⟩
   obtain ⟨fd,hfd,rfl⟩:=hfld
   have hh:=xp ht h;clear h;obtain ⟨v,v1,v2,h⟩:=hh
   split at h
   ·rename_i hm
    have hh:=zd2 (p:=(· <nb)) ρ h;clear h;obtain ⟨ps,h,hc,_,hok⟩:=hh
    have hh:=zly (ρ:=ρ) (hok v1) h;clear h;obtain ⟨r,h,hro,hl⟩:=hh
    refine .v ?_ hro h
    intro w
    rw [hc] at hl
    simp only [execOp,v2,zbt hm,Instr.field,Sem.run_bind,run_underlying hu,Result.andThen_ok,hfd,asAgg,Sem.run_pure,zf1 hF hl]
   ·exact h.elim
  ·exact h.elim
theorem zki (hΓ:CtxOK P Γ) (ht:TmRel Γ.nt ρ nb tm a) (t:TypeId) (x i:Operand) {K:SV→Prop} (h:xd Γ (.indexAddr t x i) tm K):
    xh P nb ⟨dst,.indexAddr t x i,type,pos,after,guard⟩ a ρ K:=by
  unfold xd at h
  dsimp only at h
  have hh:=zz h;clear h;obtain ⟨ti,hti,h⟩:=hh
  have hT:=(hΓ.ty t ti hti).2.2.1
  have hh:=xp ht h;clear h;obtain ⟨v,v1,v2,h⟩:=hh
  have hh:=xp ht h;clear h;obtain ⟨iv,iv0,i2,h⟩:=hh
  have hh:=zl7 (ρ:=ρ) h;clear h;obtain ⟨ix,h,kd,hix⟩:=hh
  split at h
  ·rename_i n e hd
   rw [hd] at hT
   have hh:=zz h;clear h;obtain ⟨ei,hei,h⟩:=hh
   have hE:=hΓ.ty e ei hei
   split at h
   ·rename_i k j b oo
    have hh:=zl h;clear h;obtain ⟨hb,h⟩:=hh
    refine .v ?_ (v:= .ptr k j b (yc oo ix ei.sz)) v1 h
    intro w
    have hc:0≤(ix:Int)∧(ix:Int)<(n:Int):=by omega
    simp only [execOp,v2,i2,hix,SV.den,Instr.indexAt,asIntOf,Sem.run_bind,Sem.run_pure,Result.andThen_ok,run_underlying hT,zah]
    rw [if_pos hc]
    simp only [Sem.run_bind,yf hE,Result.andThen_ok,Sem.run_pure,zbw,zv,Int.toNat_natCast,Nat.add_assoc]
   ·exact h.elim
  ·rename_i e hd
   rw [hd] at hT
   have hh:=zz h;clear h;obtain ⟨ei,hei,h⟩:=hh
   have hE:=hΓ.ty e ei hei
   split at h
   ·rename_i k j b oo n c
    have hh:=zl h;clear h;obtain ⟨hb,h⟩:=hh
    refine .v ?_ (v:= .ptr k j b (yc oo ix ei.sz)) v1 h
    intro w
    have hc:0≤(ix:Int)∧(ix:Int)<(n:Int):=by omega
    simp only [execOp,v2,i2,hix,SV.den,Instr.indexAt,asIntOf,Sem.run_bind,Sem.run_pure,Result.andThen_ok,run_underlying hT]
    rw [if_pos hc]
    simp only [Sem.run_bind,yf hE,Result.andThen_ok,Sem.run_pure,zbw,zv,Int.toNat_natCast,Nat.add_assoc]
   ·rename_i A n c
    have hh:=zl h;clear h;obtain ⟨hb,h⟩:=hh
    obtain ⟨A,rfl⟩: ∃A',A=some A':=by
      rcases v1 with v1|v1
      ·cases A with
       |none=>cases v1
       |some A=>exact ⟨A,rfl⟩
      ·omega
    refine .v ?_ (v:= .xptr (A.add (ix*ei.sz))) trivial h
    intro w
    have hc:0≤(ix:Int)∧(ix:Int)<(n:Int):=by omega
    simp only [execOp,v2,i2,hix,SV.den,Instr.indexAt,asIntOf,Sem.run_bind,Sem.run_pure,Result.andThen_ok,run_underlying hT]
    rw [if_pos hc]
    simp only [Sem.run_bind,yf hE,Result.andThen_ok,Sem.run_pure,Int.toNat_natCast]
   ·exact h.elim
  ·exact h.elim
theorem zsj (hΓ:CtxOK P Γ) (ht:TmRel Γ.nt ρ nb tm a) (t:TypeId) (x i:Operand) {K:SV→Prop} (h:xd Γ (.index t x i) tm K):
    xh P nb ⟨dst,.index t x i,type,pos,after,guard⟩ a ρ K:=by
  unfold xd at h
  dsimp only at h
  have hh:=zz h;clear h;obtain ⟨ti,hti,h⟩:=hh
  have hT:=(hΓ.ty t ti hti).2.2.1
  have hh:=xp ht h;clear h;obtain ⟨v,v1,v2,h⟩:=hh
  have hh:=xp ht h;clear h;obtain ⟨iv,iv0,i2,h⟩:=hh
  have hh:=zl7 (ρ:=ρ) h;clear h;obtain ⟨ix,h,kd,hix⟩:=hh
  split at h
  ·rename_i l
   split at h
   ·rename_i hd
    rw [hd] at hT
    obtain ⟨hb,h⟩:=zl h
    refine .v ?_ (v:= .u8 (l.getD ix 0)) trivial h
    intro w
    have hs:ix<(⟨l.toArray⟩:ByteArray).size:=by simpa [ByteArray.size] using hb
    have hget:(⟨l.toArray⟩:ByteArray)[ix]?=some (l.getD ix 0):=by
      rw [getElem?_pos (⟨l.toArray⟩:ByteArray) ix hs]
      simp only [ByteArray.getElem_eq_getElem_data,List.getElem_toArray,List.getD_eq_getElem?_getD,List.getElem?_eq_getElem hb,Option.getD_some]
    have h0:0≤(ix:Int):=by omega
    simp only [execOp,v2,i2,hix,SV.den,Instr.index,asIntOf,Sem.run_bind,Sem.run_pure,Result.andThen_ok,run_underlying hT,if_pos h0,Int.toNat_natCast,hget]
   ·exact h.elim
  ·split at h
   ·rename_i n e hd
    rw [hd] at hT
    have hh:=zz h;clear h;obtain ⟨ei,hei,h⟩:=hh
    have hE:=hΓ.ty e ei hei
    split at h
    ·rename_i hm
     obtain ⟨hb,h⟩:=zl h
     have hh:=zg9 (ρ:=ρ) (p:=(· <nb)) (ps:= [v]) ⟨v1,trivial⟩ h;clear h;obtain ⟨r,h,hro,hl⟩:=hh
     refine .v ?_ hro h
     intro w
     have hc:0≤(ix:Int)∧(ix:Int)<(n:Int):=by omega
     have hcl:zm ρ [v]=v.cells ρ:=by simp [zm]
     rw [hcl] at hl
     have hoff:0+off [(ix,ei.sz)]=ix*ei.sz:=by simp [off,zbj]
     rw [hoff] at hl
     simp only [execOp,v2,i2,hix,zbt hm,Instr.index,asIntOf,Sem.run_bind,Sem.run_pure,Result.andThen_ok,run_underlying hT]
     rw [if_pos hc]
     simp only [Sem.run_bind,yf hE,Result.andThen_ok,Int.toNat_natCast,zf1 hE hl,Sem.run_pure]
    ·exact h.elim
   ·exact h.elim
theorem zos (ht:TmRel Γ.nt ρ nb tm a) (x:Operand) (i:Nat) {K:SV→Prop} (h:xd Γ (.extract x i) tm K):
    xh P nb ⟨dst,.extract x i,type,pos,after,guard⟩ a ρ K:=by
  unfold xd at h
  dsimp only at h
  have hh:=xp ht h;clear h;obtain ⟨v,v1,v2,h⟩:=hh
  split at h
  ·rename_i vs
   have hh:=zb0 h;clear h;obtain ⟨u,hu,h⟩:=hh
   refine .v ?_ (zoa v1 hu) h
   intro w
   have:=zli (ρ:=ρ) hu
   simp only [execOp,v2,SV.den,Instr.extract,List.getElem?_toArray,this,Sem.run_bind,Sem.run_pure,Result.andThen_ok]
  ·exact h.elim
theorem zvj (hΓ:CtxOK P Γ) (hr:HpRel ρ hp w) (ht:TmRel Γ.nt ρ hp.length tm a) (t:TypeId) (x:Operand) {K:SV→Prop} (h:zdo Γ (.load t x) tm hp K):
    zf3 P Γ.E hp.length ⟨dst,.load t x,type,pos,after,guard⟩ a ρ w K:=by
  unfold zdo at h
  dsimp only at h
  have hh:=zz h;clear h;obtain ⟨ti,hti,h⟩:=hh
  have hT:=hΓ.ty t ti hti
  have hh:=xp ht h;clear h;obtain ⟨v,v0,h2,h⟩:=hh
  split at h
  ·rename_i k j b oo
   have hh:=za2 h;clear h;obtain ⟨el,ps,hk,h⟩:=hh
   obtain ⟨hok,_⟩:=hr.mem k el ps hk
   have hh:=zg9 (ρ:=ρ) hok h;clear h;obtain ⟨u,h,hu,hl⟩:=hh
   refine .v ?_ hu h
   simp only [execOp,Instr.loadAt,h2,SV.den,Sem.run_bind,zah,Result.andThen_ok,zd4 hT (fun i=>hr.cell hk i) hl,Sem.run_pure]
  ·rename_i A
   obtain ⟨u,hu,hk⟩:=z3m h
   obtain ⟨h5,h6⟩:=hΓ.ext A t u hu
   refine ⟨u,hk,SV.ok_mono (fun _ hf=>hf.elim) u h5,fun hE=>?_⟩
   simp only [execOp,Instr.loadAt,h2,SV.den,Sem.run_bind,zah,Result.andThen_ok,h6 ρ w hE,Sem.run_pure]
  ·exact h.elim
theorem zlo (hΓ:CtxOK P Γ) (hr:HpRel ρ hp w) (ht:TmRel Γ.nt ρ hp.length tm a) (s:TypeId) (x:Operand) (f:Nat) {K:SV→Prop} (h:zdo Γ (.fieldAddr s x f) tm hp K):
    zf3 P Γ.E hp.length ⟨dst,.fieldAddr s x f,type,pos,after,guard⟩ a ρ w K:=by
  unfold zdo at h
  dsimp only at h
  have hh:=zz h;clear h;obtain ⟨si,hsi,h⟩:=hh
  have hS:=(hΓ.ty s si hsi).2.2.1
  split at h
  ·rename_i fs hd
   rw [hd] at hS
   obtain ⟨flds,hu,hfs,_⟩:=hS
   have hh:=zb0 h;clear h;obtain ⟨ft,hft,h⟩:=hh
   have hh:=zz h;clear h;obtain ⟨fi,hfi,h⟩:=hh
   have hF:=hΓ.ty _ fi hfi
   have hfld: ∃fd,flds[f]?=some fd∧ft=(fd.offset,fd.type):=by
     rw [←hfs,List.getElem?_map] at hft
     cases hq:flds.toList[f]? with
     |none=>rw [hq] at hft;simp at hft
     |some fd=>rw [hq] at hft;exact ⟨fd,by simpa using hq,(Option.some.inj hft).symm⟩
   obtain ⟨fd,hfd,rfl⟩:=hfld
   split at h
   ·exact h.elim
   ·rename_i m hm
    have hh:=xp ht h;clear h;obtain ⟨v,v1,v2,h⟩:=hh
    split at h
    ·rename_i k j b oo
     have key: ∀u:SV,u.den ρ= .pointer (some ⟨ρ k,b+off oo+fd.offset,none⟩)→(execOp a.eval ⟨dst,.fieldAddr s x f,type,pos,after,guard⟩).run P w= .ok (.value (u.den ρ)) w:=by
       intro u hu'
       have hne: ¬(fi.sz=0):=by rw [hm];omega
       simp only [execOp,v2,SV.den,Instr.fieldAt,Sem.run_bind,run_underlying hu,Result.andThen_ok,hfd,zah,fieldPlace,yf hF,if_neg hne,Sem.run_pure,zbw,hu']
     split at h
     ·rename_i h0
      refine .v (key (.ptr k j b oo) ?_) v1 h
      simp only at h0
      simp [SV.den,h0]
     ·rename_i c hc
      simp only at hc
      split at h
      ·have hh:=za2 h;clear h;obtain ⟨el,ps,hk,h⟩:=hh
       have hh:=zdk h;clear h;obtain ⟨_,r,_,_,h⟩:=hh
       have hh:=zj1 h;clear h;obtain ⟨j',b',o',he,h⟩:=hh
       refine .v (key (.ptr k j' b' o') ?_) v1 h
       simp only [SV.den,he,hc,off]
       congr 3
      ·refine .v (key (.ptr k j b (yc oo (c+1) 1)) ?_) v1 h
       simp only [SV.den,zv,hc]
       congr 3;omega
    ·rename_i A
     have hne: ¬(fi.sz=0):=by rw [hm];omega
     refine .v (v:= .xptr (A.add fd.offset)) ?_ trivial h
     simp only [execOp,v2,SV.den,Instr.fieldAt,Sem.run_bind,run_underlying hu,Result.andThen_ok,hfd,zah,fieldPlace,yf hF,if_neg hne,Sem.run_pure]
    ·exact h.elim
  ·exact h.elim
theorem zpz (hΓ:CtxOK P Γ) (ht:TmRel Γ.nt ρ nb tm a) (s d:TypeId) (x:Operand) {K:SV→Prop} (h:xd Γ (.convert s d x) tm K):
    xh P nb ⟨dst,.convert s d x,type,pos,after,guard⟩ a ρ K:=by
  unfold xd at h
  dsimp only at h
  have hh:=zz h;clear h;obtain ⟨si,hs,h⟩:=hh
  obtain ⟨ds,hds⟩:=(hΓ.ty s si hs).under
  have hh:=zz h;clear h;obtain ⟨di,hd,h⟩:=hh
  have hu:=(hΓ.ty d di hd).2.2.1
  split at h
  ·rename_i kd hdd
   rw [hdd] at hu
   have hh:=xp ht h;clear h;obtain ⟨u,u1,u2,h⟩:=hh
   obtain ⟨sk,m,hn,v,hk,hok,hrun⟩:=zl6 (P:=P) (ρ:=ρ) h
   refine .v (v:=v) (fun w=>?_) (hok _) hk
   simp only [execOp,Sem.run_bind,u2,hn]
   unfold convert
   simp only [Sem.run_bind,run_underlying hds,run_underlying hu,Result.andThen_ok,hrun,Sem.run_pure]
  ·exact h.elim
theorem zom (hΓ:CtxOK P Γ) (hr:HpRel ρ hp w) (ht:TmRel Γ.nt ρ hp.length tm a) (s d:TypeId) (x:Operand) {K:SV→Prop} (h:zdo Γ (.convert s d x) tm hp K):
    zf3 P Γ.E hp.length ⟨dst,.convert s d x,type,pos,after,guard⟩ a ρ w K:=by
  unfold zdo at h
  dsimp only at h
  have hh:=zz h;clear h;obtain ⟨si,hs,h⟩:=hh
  have hS:=hΓ.ty s si hs
  obtain ⟨ds,hds⟩:=hS.under
  have hh:=zz h;clear h;obtain ⟨di,hd,h⟩:=hh
  have hu:=(hΓ.ty d di hd).2.2.1
  split at h
  ·rename_i hdd
   rw [hdd] at hu
   have hh:=xp ht h;clear h;obtain ⟨u,u1,u2,h⟩:=hh
   split at h
   ·rename_i l
    refine .v (v:= .str l) ?_ trivial h
    simp only [execOp,Sem.run_bind,u2]
    unfold convert
    simp only [Sem.run_bind,run_underlying hds,run_underlying hu,Result.andThen_ok,SV.den]
    cases ds<;>rfl
   ·split at h
    ·rename_i e he
     have hsu:=hS.2.2.1
     rw [he] at hsu
     have hh:=zz h;clear h;obtain ⟨ei,hei,h⟩:=hh
     have hE:=(hΓ.ty e ei hei).2.2.1
     split at h
     ·rename_i h8
      rw [h8] at hE
      refine .v (v:= .str []) ?_ trivial h
      simp only [execOp,Sem.run_bind,u2]
      unfold convert
      simp only [SV.den]
      simp only [Sem.run_bind,run_underlying hsu,run_underlying hu,Result.andThen_ok,run_underlying hE]
      rfl
     ·exact h.elim
    ·exact h.elim
   ·split at h
    ·rename_i e he
     have hsu:=hS.2.2.1
     rw [he] at hsu
     have hh:=zz h;clear h;obtain ⟨ei,hei,h⟩:=hh
     have hE:=(hΓ.ty e ei hei).2.2.1
     split at h
     ·rename_i h8
      rw [h8] at hE
      have hh:=zhy (P:=P) hr h;clear h;obtain ⟨l,h,_,hl⟩:=hh
      obtain ⟨_,_,h3⟩:=hl w (fun _=>rfl)
      refine .v (v:= .str l) ?_ trivial h
      have h3':=h3 (fun s hs=>by cases hs)
      simp only [execOp,Sem.run_bind,u2]
      unfold convert
      simp only [SV.den] at h3' ⊢
      simp only [Sem.run_bind,run_underlying hsu,run_underlying hu,Result.andThen_ok,run_underlying hE,h3',Sem.run_pure]
     ·exact h.elim
    ·exact h.elim
   ·exact h.elim
  ·exact h.elim
theorem zvs (hΓ:CtxOK P Γ) (ht:TmRel Γ.nt ρ nb tm a) (c:Call) {K:SV→Prop} (h:xd Γ (.call c) tm K):
    xh P nb ⟨dst,.call c,type,pos,after,guard⟩ a ρ K:=by
  obtain ⟨callee,args,argTypes⟩:=c
  unfold xd at h
  dsimp only at h
  have hh:=zsh ht h;clear h;obtain ⟨vs,va,ve,h⟩:=hh
  have hargs:=zo5 ve
  have blt: ∀(b:Builtin) (s:Sem Value) (v:SV),callee= .builtin b→(∀cs,builtin b argTypes type cs (yu ρ vs).toArray=(do pure (.value (←s)):Sem Next))→
   (∀w,s.run P w= .ok (v.den ρ) w)→v.ok (· <nb)→K v→xh P nb ⟨dst,.call ⟨callee,args,argTypes⟩,type,pos,after,guard⟩ a ρ K:=by
    intro b s v hb hs hv hok hk
    subst hb
    refine .v (fun w=>?_) hok hk
    have he:execOp a.eval ⟨dst,.call ⟨.builtin b,args,argTypes⟩,type,pos,after,guard⟩=(do pure (.value (←s)):Sem Next):=by
      simp only [execOp,resolve,hargs]
      exact hs _
    rw [he]
    simp only [Sem.run_bind,hv,Result.andThen_ok,Sem.run_pure]
  split at h
  ·split at h
   ·rename_i t hat
    have hat0:argTypes[0]?=some t:=by rw [←Array.getElem?_toList,hat];rfl
    have hh:=zz h;clear h;obtain ⟨ti,hti,h⟩:=hh
    have hT:=(hΓ.ty t ti hti).2.2.1
    have fin: ∀(n:Int),K (.int n)→(∀w,(Builtin.len_ argTypes type (yu ρ vs).toArray).run P w= .ok (.int .i64 n) w)→
     xh P nb ⟨dst,.call ⟨.builtin .len,args,argTypes⟩,type,pos,after,guard⟩ a ρ K:=by
      intro n hk hrun
      exact blt .len (Builtin.len_ argTypes type (yu ρ vs).toArray) (.int n) rfl (fun _=>rfl) hrun trivial hk
    split at h
    ·rename_i hd
     rw [hd] at hT
     split at h
     ·rename_i l
      refine fin _ h (fun w=>?_)
      simp only [Builtin.len_,hat0,yu,SV.den,List.getElem?_toArray,List.getElem?_cons_zero,Sem.run_bind,run_underlying hT,Result.andThen_ok,Sem.run_pure,goInt]
      simp [ByteArray.size]
     ·exact h.elim
    ·rename_i e hd
     rw [hd] at hT
     split at h
     ·refine fin _ h (fun w=>?_)
      simp only [Builtin.len_,hat0,yu,SV.den,List.getElem?_toArray,List.getElem?_cons_zero,Sem.run_bind,run_underlying hT,Result.andThen_ok,Sem.run_pure,goInt]
     ·refine fin _ h (fun w=>?_)
      simp only [Builtin.len_,hat0,yu,SV.den,List.getElem?_toArray,List.getElem?_cons_zero,Sem.run_bind,run_underlying hT,Result.andThen_ok,Sem.run_pure,goInt]
      rfl
     ·refine fin _ h (fun w=>?_)
      simp only [Builtin.len_,hat0,yu,SV.den,List.getElem?_toArray,List.getElem?_cons_zero,Sem.run_bind,run_underlying hT,Result.andThen_ok,Sem.run_pure,goInt]
     ·exact h.elim
    ·rename_i n e hd
     rw [hd] at hT
     split at h
     ·refine fin _ h (fun w=>?_)
      simp only [Builtin.len_,hat0,yu,List.getElem?_toArray,List.getElem?_cons_zero,Sem.run_bind,run_underlying hT,Result.andThen_ok,Sem.run_pure,goInt]
     ·exact h.elim
    ·exact h.elim
   ·exact h.elim
  ·have m2: ∀(x y:Int) w,(Builtin.min2 (.int .i64 x) (.int .i64 y)).run P w= .ok (.int .i64 (min x y)) w:=fun x y w=>by
     simp only [Builtin.min2,Sem.run_pure]
     congr 2
     split<;>omega
   split at h
   ·rename_i x y
    refine blt .min (Builtin.min_ argTypes type _) (.int (min x y)) rfl (fun _=>rfl) (fun w=>?_) trivial h
    simp only [Builtin.min_,yu,SV.den,List.foldlM_cons,List.foldlM_nil,Sem.run_bind,m2,Result.andThen_ok,Sem.run_pure]
   ·rename_i x y z
    refine blt .min (Builtin.min_ argTypes type _) (.int (min (min x y) z)) rfl (fun _=>rfl) (fun w=>?_) trivial h
    simp only [Builtin.min_,yu,SV.den,List.foldlM_cons,List.foldlM_nil,Sem.run_bind,m2,Result.andThen_ok,Sem.run_pure]
   ·exact h.elim
  ·have m2: ∀(x y:Int) w,(Builtin.max2 (.int .i64 x) (.int .i64 y)).run P w= .ok (.int .i64 (max x y)) w:=fun x y w=>by
     simp only [Builtin.max2,Sem.run_pure]
     congr 2
     split<;>omega
   split at h
   ·rename_i x y
    refine blt .max (Builtin.max_ argTypes type _) (.int (max x y)) rfl (fun _=>rfl) (fun w=>?_) trivial h
    simp only [Builtin.max_,yu,SV.den,List.foldlM_cons,List.foldlM_nil,Sem.run_bind,m2,Result.andThen_ok,Sem.run_pure]
   ·rename_i x y z
    refine blt .max (Builtin.max_ argTypes type _) (.int (max (max x y) z)) rfl (fun _=>rfl) (fun w=>?_) trivial h
    simp only [Builtin.max_,yu,SV.den,List.foldlM_cons,List.foldlM_nil,Sem.run_bind,m2,Result.andThen_ok,Sem.run_pure]
   ·exact h.elim
  ·exact h.elim
variable {m:Nat}
theorem zsn (hΓ:CtxOK P Γ) (t:TypeId) {K:SV→Blk→Prop} (h:zbe Γ (.alloc t) tm m K):
    zhu P nb m ⟨dst,.alloc t,type,pos,after,guard⟩ a ρ K:=by
  unfold zbe at h
  dsimp only at h
  have hh:=zz h;clear h;obtain ⟨ti,hti,h⟩:=hh
  have hT:=hΓ.ty t ti hti
  have hh:=zd2 (p:=fun _=>False) ρ h;clear h;obtain ⟨ps,h,hc,_,hok⟩:=hh
  refine ⟨_,_,_,h,rfl,ym (fun _ hf=>hf.elim) _ (hok hT.2.1.1),fun ρ1 w hm=>?_⟩
  simp only [execOp,Instr.alloc,Sem.run_bind,zac (ρ:=ρ) hT,Result.andThen_ok,newVar,newRow,run_newObj,Sem.run_pure,zcb,hc,SV.den,hm,off]
  rfl
theorem zz2 (ht:TmRel Γ.nt ρ nb tm a) (t:TypeId) (x:Operand) {K:SV→Blk→Prop} (h:zbe Γ (.box t x) tm m K):
    zhu P nb m ⟨dst,.box t x,type,pos,after,guard⟩ a ρ K:=by
  unfold zbe at h
  dsimp only at h
  have hh:=xp ht h;clear h;obtain ⟨v,h1,h2,h⟩:=hh
  have hh:=zd2 (p:=(· <nb)) ρ h;clear h;obtain ⟨ps,h,hc,_,hok⟩:=hh
  refine ⟨_,_,_,h,rfl,hok h1,fun ρ1 w hm=>?_⟩
  simp only [execOp,Instr.box,Sem.run_bind,Result.andThen_ok,newVar,newRow,run_newObj,Sem.run_pure,h2,zcb,hc,SV.den,hm,off]
  rfl
theorem zkz (hΓ:CtxOK P Γ) (ht:TmRel Γ.nt ρ nb tm a) (t:TypeId) (x y:Operand) {K:SV→Blk→Prop} (h:zbe Γ (.makeSlice t x y) tm m K):
    zhu P nb m ⟨dst,.makeSlice t x y,type,pos,after,guard⟩ a ρ K:=by
  unfold zbe at h
  dsimp only at h
  have hh:=xp ht h;clear h;obtain ⟨nv,nv0,n2,h⟩:=hh
  have hh:=xp ht h;clear h;obtain ⟨cv,cv0,c2,h⟩:=hh
  have hh:=zl7 (ρ:=ρ) h;clear h;obtain ⟨n,h,hn⟩:=hh
  have hh:=zl7 (ρ:=ρ) h;clear h;obtain ⟨c,h,hc⟩:=hh
  have hh:=zz h;clear h;obtain ⟨ti,hti,h⟩:=hh
  have hu:=(hΓ.ty t ti hti).2.2.1
  split at h
  ·rename_i e hd
   rw [hd] at hu
   have hh:=zz h;clear h;obtain ⟨ei,he,h⟩:=hh
   have hE:=hΓ.ty e ei he
   have hh:=zl h;clear h;obtain ⟨⟨h1,h2,h3⟩,h⟩:=hh
   obtain ⟨ps,h,hok,hcells⟩:=zu1 (p:=(· <nb)) (ρ:=ρ) h
   obtain ⟨⟨info,i1,i2,i3,i4⟩,⟨_,_,hsz⟩,_⟩:=hE
   obtain ⟨kn,hn⟩:=hn
   obtain ⟨kc,hc⟩:=hc
   have hcc:madeCells (ei.zero.den ρ).cells ((c:Int).toNat*info.size)=(zm ρ ps).toArray:=by
     apply Array.ext'
     rw [←hcells,i2,←hsz];simp
   refine ⟨_,_,_,h,by simp [SV.ok],hok,fun ρ1 w hm=>?_⟩
   have hrun:=run_make (P:=P) w t e info (ei.zero.den ρ) hu i1 (i4 ρ) kn kc n c (by omega) (by omega) (by
     have:(info.bytes:Int)*(c:Int)=((ei.bytes*c:Nat):Int):=by rw [i3];simp
     rw [this];omega) (by omega)
   rw [hcc] at hrun
   simp only [execOp,Sem.run_bind,n2,c2,hn,hc,hrun,Result.andThen_ok,Sem.run_pure,SV.den,hm,off]
   simp
  ·exact h.elim
theorem zjj (hΓ:CtxOK P Γ) (ht:TmRel Γ.nt ρ nb tm a) (t:TypeId) (n:Nat) (qs:Array (Nat×Operand)) {K:SV→Blk→Prop} (h:zbe Γ (.buildSlice t n qs) tm m K):
    zhu P nb m ⟨dst,.buildSlice t n qs,type,pos,after,guard⟩ a ρ K:=by
  unfold zbe at h
  dsimp only at h
  have hh:=zni ht h;clear h;obtain ⟨given,g1,g2,h⟩:=hh
  have e:(qs.map fun (i,x)=>(i,a.eval x))=(given.map fun g=>(g.1,g.2.den ρ)).toArray:=by
    apply Array.ext';simp only [Array.toList_map];exact g2
  have hh:=zz h;clear h;obtain ⟨ti,hti,h⟩:=hh
  have hu:=(hΓ.ty t ti hti).2.2.1
  split at h
  ·rename_i el hd
   rw [hd] at hu
   have hh:=zz h;clear h;obtain ⟨ei,he,h⟩:=hh
   have hE:=hΓ.ty el ei he
   have hh:=zl h;clear h;obtain ⟨h1,h⟩:=hh
   have hh:=zu1 (p:=(· <nb)) (ρ:=ρ) h;clear h;obtain ⟨zs,h,hok,hcells⟩:=hh
   have hh:=zfe (ρ:=ρ) hok g1 h;clear h;obtain ⟨ps,h,hok',hfill⟩:=hh
   have hsz:=hE.2.1.2.2
   refine ⟨_,_,_,h,by simp [SV.ok],hok',fun ρ1 w hm=>?_⟩
   have hb:(Instr.buildSlice t n (given.map fun g=>(g.1,g.2.den ρ)).toArray).run P w= .ok (.slice (some ⟨w.heap.size,0,none⟩) n n) (w.alloc (.cells (zm ρ ps).toArray el)):=by
     unfold Instr.buildSlice
     have hgt: ¬(n*ei.sz>2^24):=by omega
     have hmade:(madeCells (ei.zero.den ρ).cells (n*ei.sz))=(zm ρ zs).toArray:=by
       rw [←hsz];apply Array.ext';rw [hcells]
     simp only [Sem.run_bind,run_underlying hu,Result.andThen_ok,yf hE,hgt,if_false]
     by_cases h0:n*ei.sz=0
     ·have hz0:(zm ρ zs).toArray= #[]:=by rw [←hmade,h0];simp [madeCells,Array.range_zero']
      simp only [h0,if_true,Sem.run_bind,Sem.run_pure,Result.andThen_ok]
      have e0:(Array.map (fun x=>(#[]:Array Value)[x%(#[]:Array Value).size]!) (Array.range 0))=(zm ρ zs).toArray:=by rw [hz0];simp
      rw [e0,hfill]
      rfl
     ·simp only [if_neg h0,Sem.run_bind,zac (ρ:=ρ) hE,Result.andThen_ok,Sem.run_pure]
      have e0:(Array.map (fun x=>(ei.zero.den ρ).cells[x%(ei.zero.den ρ).cells.size]!) (Array.range (n*ei.sz)))=(zm ρ zs).toArray:=hmade
      rw [e0,hfill]
      rfl
   simp only [execOp,Sem.run_bind]
   rw [e,hb]
   simp only [Result.andThen_ok,Sem.run_pure,SV.den,hm,off]
  ·exact h.elim
end
end Go.Sym

namespace Go.Sym
section
variable {P:Program} {Γ:Ctx} {ρ:Nat→Nat} {hp:List Blk} {w:World} {tm:List (Nat×SV)} {a:Act} {nb:Nat}
def zcc (P:Program) (o:Oper) (a:Act) (ρ:Nat→Nat) (hp:List Blk) (w:World) (put:SV→List Blk→Prop) (skip:List Blk→Prop):Prop:=
  (∃v ρ' hp' w',(execOp a.eval o).run P w= .ok (.value (v.den ρ')) w'∧v.ok (· <hp'.length)∧Step ρ hp w ρ' hp' w'∧put v hp')∨
  (∃hp' w',(execOp a.eval o).run P w= .ok .skip w'∧Step ρ hp w ρ hp' w'∧skip hp')∨
  (∃f args,(execOp a.eval o).run P w= .ok (.enter f args) w∧Calls P f args w fun e w'=> ∃v ρ' hp',e= .returned (v.den ρ')∧v.ok (· <hp'.length)∧Step ρ hp w ρ' hp' w'∧put v hp')
theorem zcc.mem {o:Oper} {put:SV→List Blk→Prop} {skip:List Blk→Prop} {s:Sem Value} (he:execOp a.eval o=(do pure (.value (←s)):Sem Next)) (h:Mem P ρ hp w put s):zcc P o a ρ hp w put skip:=by
  obtain ⟨v,ρ',hp',w',h1,h2,h3,h4⟩:=h
  refine .inl ⟨v,ρ',hp',w',?_,h2,h3,h4⟩
  rw [he];simp only [Sem.run_bind,h1,Result.andThen_ok,Sem.run_pure]
variable (dst:Option Nat) (type:TypeId) (pos:String) (after:Array Edge) (guard:Option (Nat×Bool))
theorem zn6 (hΓ:CtxOK P Γ) (hr:HpRel ρ hp w) (ht:TmRel Γ.nt ρ hp.length tm a) (t:TypeId) (x y:Operand) {put:SV→List Blk→Prop} {skip:List Blk→Prop}
    (h:za5 Γ (.store t x y) tm hp put skip):zcc P ⟨dst,.store t x y,type,pos,after,guard⟩ a ρ hp w put skip:=by
  unfold za5 at h
  dsimp only at h
  have hh:=zz h;clear h;obtain ⟨ti,hti,h⟩:=hh
  have hT:=hΓ.ty t ti hti
  have hh:=xp ht h;clear h;obtain ⟨v,v0,h2,h⟩:=hh
  have hh:=xp ht h;clear h;obtain ⟨u,hu,h3,h⟩:=hh
  split at h
  ·rename_i k j b oo
   have hh:=za2 h;clear h;obtain ⟨el,ps,hk,h⟩:=hh
   obtain ⟨hok,el0,fz,hblk,hfz⟩:=hr.mem k el ps hk
   have hh:=zh5 (ρ:=ρ) hok hu h;clear h;obtain ⟨ps',h,hok',hlen,hw1,hw2,hw3⟩:=hh
   have hh:=zc2 h;clear h;obtain ⟨_,h⟩:=hh
   have hst:=xj (P:=P) (b:=ρ k) (s:=b+off oo) (el:=el0) (fz:=fz) (u.cells ρ) 0 (zm ρ ps) w hblk hfz (by simpa using hw2) hw3
   rw [Nat.add_zero,←hw1] at hst
   refine .inr (.inl ⟨_,_,?_,Step.write (el0:=el0) (fz:=fz) hr hk hok' (by rw [hw1,yx _ _ _ hw2];exact hfz),h⟩)
   have hsz: ¬((u.cells ρ).toArray.size≠ti.sz):=by simp [hlen]
   simp only [execOp,Instr.storeAt,h2,h3,SV.den,Sem.run_bind,zah,Result.andThen_ok,storeVar,yf hT,zcb]
   rw [if_neg hsz]
   rw [hst];rfl
  ·exact h.elim
theorem zj3 (hΓ:CtxOK P Γ) (hr:HpRel ρ hp w) (ht:TmRel Γ.nt ρ hp.length tm a) (s d:TypeId) (x:Operand) {put:SV→List Blk→Prop} {skip:List Blk→Prop}
    (h:za5 Γ (.convert s d x) tm hp put skip):zcc P ⟨dst,.convert s d x,type,pos,after,guard⟩ a ρ hp w put skip:=by
  unfold za5 at h
  dsimp only at h
  have hh:=xp ht h;clear h;obtain ⟨v,v1,v2,h⟩:=hh
  refine .mem (s:=convert s d (a.eval x)) rfl ?_
  rw [v2]
  exact z2f hΓ hr h
theorem zqy (hΓ:CtxOK P Γ) (hr:HpRel ρ hp w) (ht:TmRel Γ.nt ρ hp.length tm a) (c:Call) {put:SV→List Blk→Prop} {skip:List Blk→Prop}
    (h:za5 Γ (.call c) tm hp put skip):zcc P ⟨dst,.call c,type,pos,after,guard⟩ a ρ hp w put skip:=by
  obtain ⟨callee,args,argTypes⟩:=c
  unfold za5 at h
  dsimp only at h
  have hh:=zsh ht h;clear h;obtain ⟨vs,va,ve,h⟩:=hh
  have hargs:=zo5 ve
  have blt: ∀(b:Builtin) (s:Sem Value),callee= .builtin b→(∀cs,builtin b argTypes type cs (yu ρ vs).toArray=(do pure (.value (←s)):Sem Next))→
   execOp a.eval ⟨dst,.call ⟨callee,args,argTypes⟩,type,pos,after,guard⟩=(do pure (.value (←s)):Sem Next):=by
    intro b s hb hs
    subst hb
    simp only [execOp,resolve,hargs]
    exact hs _
  split at h
  ·rename_i f
   have hh:=xp ht h;clear h;obtain ⟨fv,f1,f2,h⟩:=hh
   split at h
   ·rename_i fi caps
    have hh:=zz h;clear h;obtain ⟨S,hS,h⟩:=hh
    have hh:=zd3 h;clear h;have h:=hh;clear hh
    have hout:=z20 hr (hΓ.fn fi S hS) (y4.2 ⟨va,f1⟩) h
    have hexec:execOp a.eval ⟨dst,.call ⟨.value f,args,argTypes⟩,type,pos,after,guard⟩=callFunc fi (yu ρ (vs++caps)).toArray:=by
      simp only [execOp,resolve,f2,SV.den,Deferred.ofValue,hargs,zq7]
      show invoke (.fn (.func fi) (yu ρ caps).toArray) _=_
      simp [invoke]
    rcases hout with ⟨r,ρ',hp',w',h1,h2,h3,h4⟩|⟨h1,h2⟩
    ·exact .inl ⟨r,ρ',hp',w',by rw [hexec,h1],h3,h4,h2⟩
    ·refine .inr (.inr ⟨fi,_,by rw [hexec,h1],h2.mono fun e w' ⟨r,ρ',hp',he,g1,g2,g3⟩=>⟨r,ρ',hp',he,g2,g3,g1⟩⟩)
   ·exact h.elim
  ·split at h
   ·rename_i d s
    split at h
    ·rename_i t ats hat
     have hat0:argTypes=(t ::ats).toArray:=by apply Array.ext';rw [hat]
     refine .mem (blt .copy (Builtin.copy_ argTypes type _) rfl (fun _=>rfl)) ?_
     rw [hat0]
     exact z2e hΓ hr va.1 h
    ·exact h.elim
   ·exact h.elim
  ·split at h
   ·rename_i s x
    split at h
    ·rename_i t u hat
     have hat0:argTypes= #[t,u]:=by apply Array.ext';rw [hat]
     refine .mem (blt .append (Builtin.append_ argTypes type _) rfl (fun _=>rfl)) ?_
     rw [hat0]
     exact zwm hΓ hr h
    ·exact h.elim
   ·exact h.elim
  ·exact h.elim
theorem zox (hΓ:CtxOK P Γ) (ht:TmRel Γ.nt ρ nb tm a) (o:Oper) {K:SV→Prop} (h:xd Γ o.op tm K):xh P nb o a ρ K:=by
  obtain ⟨dst,op,type,pos,after,guard⟩:=o
  cases op
  case move x=>exact zv7 dst type pos after guard hΓ ht x h
  case assign x=>exact zqi dst type pos after guard hΓ ht x h
  case pick c x y=>exact zvz dst type pos after guard hΓ ht c x y h
  case build t ps=>exact zs4 dst type pos after guard hΓ ht t ps h
  case nilCheck x=>exact zml dst type pos after guard hΓ ht x h
  case binOp op t x y t'=>exact ztg dst type pos after guard hΓ ht op t x y t' h
  case unOp op t x=>exact zwl dst type pos after guard hΓ ht op t x h
  case slice t x lo hi mx=>exact zst dst type pos after guard hΓ ht t x lo hi mx h
  case field s x f=>exact zr2 dst type pos after guard hΓ ht s x f h
  case indexAddr t x i=>exact zki dst type pos after guard hΓ ht t x i h
  case index t x i=>exact zsj dst type pos after guard hΓ ht t x i h
  case makeFunc fn first caps=>exact zmh dst type pos after guard ht fn first caps h
  case extract x i=>exact zos dst type pos after guard ht x i h
  case convert s d x=>exact zpz dst type pos after guard hΓ ht s d x h
  case call c=>exact zvs dst type pos after guard hΓ ht c h
  all_goals exact h.elim
theorem zju (hΓ:CtxOK P Γ) (hr:HpRel ρ hp w) (ht:TmRel Γ.nt ρ hp.length tm a) (o:Oper) {K:SV→Prop} (h:zdo Γ o.op tm hp K):zf3 P Γ.E hp.length o a ρ w K:=by
  obtain ⟨dst,op,type,pos,after,guard⟩:=o
  cases op
  case load t x=>exact zvj dst type pos after guard hΓ hr ht t x h
  case fieldAddr s x f=>exact zlo dst type pos after guard hΓ hr ht s x f h
  case convert s d x=>exact zom dst type pos after guard hΓ hr ht s d x h
  all_goals exact h.elim
theorem zre (hΓ:CtxOK P Γ) (ht:TmRel Γ.nt ρ nb tm a) (o:Oper) {m:Nat} {K:SV→Blk→Prop} (h:zbe Γ o.op tm m K):zhu P nb m o a ρ K:=by
  obtain ⟨dst,op,type,pos,after,guard⟩:=o
  cases op
  case alloc t=>exact zsn dst type pos after guard hΓ t h
  case box t x=>exact zz2 dst type pos after guard ht t x h
  case makeSlice t x y=>exact zkz dst type pos after guard hΓ ht t x y h
  case buildSlice t n qs=>exact zjj dst type pos after guard hΓ ht t n qs h
  all_goals exact h.elim
theorem zmy (hΓ:CtxOK P Γ) (hr:HpRel ρ hp w) (ht:TmRel Γ.nt ρ hp.length tm a) (o:Oper) {put:SV→List Blk→Prop} {skip:List Blk→Prop} (h:za5 Γ o.op tm hp put skip):
    zcc P o a ρ hp w put skip:=by
  obtain ⟨dst,op,type,pos,after,guard⟩:=o
  cases op
  case store t x y=>exact zn6 dst type pos after guard hΓ hr ht t x y h
  case convert s d x=>exact zj3 dst type pos after guard hΓ hr ht s d x h
  case call c=>exact zqy dst type pos after guard hΓ hr ht c h
  all_goals exact h.elim
end
end Go.Sym
