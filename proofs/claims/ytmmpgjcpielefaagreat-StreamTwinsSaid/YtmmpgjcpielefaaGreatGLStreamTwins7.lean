/-
  Contracts of functions of the program, each said of symbolic values, and plain laws; no condition beyond each statement's own.
-/
import Derived.Test.YtmmpgjcpielefaaGreatGLStreamTwins6
import Derived.Laws.MakeOwn
import Derived.Laws.BytesArg
set_option linter.unusedSimpArgs false
set_option linter.unusedVariables false
namespace Go.Sym
section
variable {P:Program} {Γ:Ctx} {p:Nat→Prop} {ρ:Nat→Nat} {hp:List Blk}
theorem zbk {k:Nat} {K:TypeId→List SV→Prop} (h:zc0 hp k K): ∃el ps,hp[k]?=some (.mk el ps)∧K el ps:=by
  unfold zc0 at h
  obtain ⟨b,h1,h⟩:=zch h
  split at h
  ·exact ⟨_,_,h1,h⟩
  ·exact h.elim
theorem zmx {b:Blk} {K:Nat→List Blk→Prop} (h:zlt hp b K):K hp.length (hp++ [b]):=by
  unfold zlt at h
  exact zby (zdh h)
theorem zij {w:World} (hr:HpRel ρ hp w) {v:SV} {K:List UInt8→Prop} (h:zg8 hp v K):
    ∃l,K l∧(v.den ρ).cells.size=1∧ ∀w':World,(∀a,w'.cell? a=w.cell? a)→(Builtin.lenOf (v.den ρ)).run P w'= .ok l.length w'∧
     (∀m,m≤l.length→(Builtin.firstCells 1 m (v.den ρ)).run P w'= .ok (c8 (l.take m)).toArray w')∧
     ((∀s,v≠ .str s)→(Conv.bytesToString (v.den ρ)).run P w'= .ok (.string ⟨l.toArray⟩) w'):=by
  unfold zg8 at h
  split at h
  ·rename_i l
   refine ⟨l,h,rfl,fun w' _=>⟨?_,fun m hm=>?_,fun hn=>absurd rfl (hn l)⟩⟩
   ·simp [Builtin.lenOf,SV.den,ByteArray.size]
   ·simp only [Builtin.firstCells,SV.den,Sem.run_pure,zle]
    congr 1
    apply Array.ext'
    simp [c8]
  ·refine ⟨[],h,rfl,fun w' _=>⟨rfl,fun m hm=>?_,fun _=>rfl⟩⟩
   simp [Builtin.firstCells,SV.den,c8]
  ·rename_i k j b o n c
   unfold z1t at h
   obtain ⟨el,ps,hk,h⟩:=zbk h
   obtain ⟨a,r,he,hb,h'⟩:=zdm h
   clear h
   have h:=h'
   clear h'
   split at h
   ·rename_i q r'
    split at h
    ·rename_i m l
     obtain ⟨h1,h⟩:=zm h
     have hcell:=fun i=>hr.cell hk i
     obtain ⟨hok,_⟩:=hr.mem k el ps hk
     rw [he] at hok hcell
     obtain ⟨hoa,_⟩:=y9.1 hok
     have hla:(zq ρ a).length=b:=by rw [xc ρ a hoa,hb]
     have hload: ∀w':World,(∀a,w'.cell? a=w.cell? a)→ ∀m',m'≤n→(loadCells ⟨ρ k,b+off o,none⟩ m').run P w'= .ok (c8 ((l.drop (off o)).take m')).toArray w':=by
       intro w' hw' m' hm'
       have hlen:(c8 ((l.drop (off o)).take m')).length=m':=by simp [c8];omega
       have:=xw (P:=P) (w:=w') (b:=ρ k) (s:=b+off o) (L:=zq ρ (a++SV.arr8 m l ::r')) (M:=c8 ((l.drop (off o)).take m'))
         (fun i=>by rw [hw',hcell]) (fun i hi=>by
           have hi':i<m':=by omega
           rw [Nat.add_assoc]
           have e:(c8 ((l.drop (off o)).take m'))[i]?=(c8 l)[off o+i]?:=by simp [c8,List.getElem?_take,hi',List.getElem?_drop]
           have hx:off o+i<(c8 l).length:=by simp [c8];omega
           rw [e,List.getElem?_eq_getElem hx]
           exact zkl hla (by show (c8 l)[_]?=_;rw [List.getElem?_eq_getElem hx]))
       rw [hlen] at this
       exact this
     refine ⟨_,h,rfl,fun w' hw'=>⟨?_,fun m' hm'=>?_,fun _=>?_⟩⟩
     ·simp only [Builtin.lenOf,SV.den,Sem.run_pure]
      congr 1;simp;omega
     ·have hm2:m'≤n:=by simp at hm';omega
      simp only [Builtin.firstCells,SV.den,Nat.mul_one]
      rw [hload w' hw' m' hm2,List.take_take,Nat.min_eq_left hm2]
     ·have:=run_bytesToString (P:=P) w' ⟨ρ k,b+off o,none⟩ n c (((l.drop (off o)).take n).map fun x=>(x.toNat:Int)) (by
        rw [hload w' hw' n (Nat.le_refl _)];congr 1;simp [c8];rfl)
      simp only [SV.den]
      rw [this,foldl_push_bytes]
      congr 2
      apply ByteArray.ext
      have e:((fun n:Int=>UInt8.ofNat n.toNat)∘ fun x:UInt8=>(x.toNat:Int))=id:=by funext x;simp
      simp [e]
    ·exact h.elim
   ·exact h.elim
  ·exact h.elim
theorem zw9 (l:List Value): ∀(o:Nat) (cs:Array Value),o+l.length≤cs.size→
    (l.zipIdx.foldl (fun (cs:Array Value) (x:Value×Nat)=>cs.setIfInBounds (o+x.2) x.1) cs)=(zw cs.toList o l).toArray:=by
  have key: ∀(l:List Value) (s o:Nat) (cs:Array Value),o+s+l.length≤cs.size→
    ((l.zipIdx s).foldl (fun (cs:Array Value) (x:Value×Nat)=>cs.setIfInBounds (o+x.2) x.1) cs)=(zw cs.toList (o+s) l).toArray:=by
    intro l
    induction l with
    |nil=>intro s o cs h;simp [zw]
    |cons v l ih=>
     intro s o cs h
     simp only [List.length_cons] at h
     simp only [List.zipIdx_cons,List.foldl_cons]
     rw [ih (s+1) o _ (by simp;omega)]
     congr 1
     simp only [Array.toList_setIfInBounds]
     have hi:o+s<cs.toList.length:=by simp;omega
     have hi2:o+s<cs.size:=by omega
     simp only [zw]
     have e1:(cs.toList.set (o+s) v).take (o+(s+1))=cs.toList.take (o+s)++ [v]:=by
       rw [show o+(s+1)=(o+s)+1 by omega,List.take_add_one,List.take_set,List.set_eq_of_length_le (by simp;omega),List.getElem?_set_self hi]
       rfl
     have e2:(cs.toList.set (o+s) v).drop (o+(s+1)+l.length)=cs.toList.drop (o+s+(l.length+1)):=by
       rw [List.drop_set_of_lt (by omega),show o+(s+1)+l.length=o+s+(l.length+1) by omega]
     rw [e1,e2];simp
  intro o cs h
  have:=key l 0 o cs (by omega)
  simpa using this
theorem znw {place:Nat→Option (Nat×Nat)} {L M L':List Value} {i s sz:Nat} {v:Value} {rest:List (Nat×Value)} (hp:place i=some (s,sz)) (hv:v.cells=M.toArray) (hsz:M.length=sz)
    (hw:zhq L s M L'):Instr.fill place L.toArray ((i,v) ::rest)=Instr.fill place L'.toArray rest:=by
  obtain ⟨h1,h2,_⟩:=hw
  subst h1
  conv=>lhs;unfold Instr.fill
  simp only [hp,hv]
  have h3:(decide (M.toArray.size≠sz)||decide (s+M.toArray.size>L.toArray.size))=false:=by simp;omega
  rw [h3]
  have:=zw9 M s L.toArray (by simpa using h2)
  simp only [Bool.false_eq_true,if_false]
  rw [←this]
  congr 1
  simp
theorem zuo {ei:TyI} {ps:List SV} {i:Nat} {v:SV} {k:List SV→Prop} (hps:okL p ps) (hv:v.ok p) (h:zf2 ei ps i v k):
    ∃ps',k ps'∧okL p ps'∧(v.cells ρ).length=ei.sz∧zhq (zq ρ ps) (i*ei.sz) (v.cells ρ) (zq ρ ps'):=by
  have walk:(zfz ps 0 0 (i*ei.sz) fun j b o=>zem ei ps j b o v k)→ ∃ps',k ps'∧okL p ps'∧(v.cells ρ).length=ei.sz∧zhq (zq ρ ps) (i*ei.sz) (v.cells ρ) (zq ρ ps'):=by
    intro h
    obtain ⟨j,b,o,he,h⟩:=zkg h
    obtain ⟨ps',h1,h2,h3,h4⟩:=zh3 (ρ:=ρ) hps hv h
    refine ⟨ps',h1,h2,h3,?_⟩
    rw [he] at h4;simpa using h4
  unfold zf2 at h
  dsimp only at h
  split at h
  ·split at h
   ·obtain ⟨ps',h1,h2,h3,h4⟩:=zh3 (ρ:=ρ) hps hv h
    refine ⟨ps',h1,h2,h3,?_⟩
    simpa [off,zbx] using h4
   ·exact walk h
  ·exact walk h
theorem zf7 {ei:TyI}: ∀{given:List (Nat×SV)} {ps:List SV} {k:List SV→Prop},okL p ps→(∀g∈given,g.2.ok p)→zd6 ei ps given k→
    ∃ps',k ps'∧okL p ps'∧Instr.fill (fun i=>some (i*ei.sz,ei.sz)) (zq ρ ps).toArray (given.map fun g=>(g.1,g.2.den ρ))=some (zq ρ ps').toArray
  | [],ps,k,hps,_,h=>⟨ps,h,hps,rfl⟩
  |(i,v) ::r,ps,k,hps,hg,h=>by
   obtain ⟨ps1,h1,h2,h3,h4⟩:=zuo (ρ:=ρ) hps (hg (i,v) (by simp)) h
   obtain ⟨ps2,g1,g2,g3⟩:=zf7 (given:=r) h2 (fun g hgr=>hg g (by simp [hgr])) h1
   refine ⟨ps2,g1,g2,?_⟩
   rw [List.map_cons,znw (M:=v.cells ρ) rfl (zcr ρ v) h3 h4]
   exact g3
theorem zig (hΓ:CtxOK P Γ) {fs:List (Nat×TypeId)} {place:Nat→Option (Nat×Nat)}
    (hplace: ∀i c t ti,fs[i]?=some (c,t)→y3 Γ.ty t=some ti→place i=some (c,ti.sz)): ∀{given:List (Nat×SV)} {ps:List SV} {k:List SV→Prop},okL p ps→(∀g∈given,g.2.ok p)→zcx Γ fs ps given k→
    ∃ps',k ps'∧okL p ps'∧Instr.fill place (zq ρ ps).toArray (given.map fun g=>(g.1,g.2.den ρ))=some (zq ρ ps').toArray
  | [],ps,k,hps,_,h=>⟨ps,h,hps,rfl⟩
  |(i,v) ::r,ps,k,hps,hg,h=>by
   unfold zcx at h
   obtain ⟨ft,hft,h⟩:=zch h
   obtain ⟨fi,hfi,h⟩:=z6 h
   obtain ⟨j,b,o,he,h⟩:=zkg h
   obtain ⟨ps1,h1,h2,h3,h4⟩:=zh3 (ρ:=ρ) hps (hg (i,v) (by simp)) h
   obtain ⟨ps2,g1,g2,g3⟩:=zig hΓ hplace (given:=r) h2 (fun g hgr=>hg g (by simp [hgr])) h1
   refine ⟨ps2,g1,g2,?_⟩
   rw [he] at h4
   rw [List.map_cons,znw (M:=v.cells ρ) (hplace i ft.1 ft.2 fi hft hfi) (zcr ρ v) h3 (by simpa using h4)]
   exact g3
theorem zap {t:TypeId} {ti:TyI} (ht:yp P t ti) (w:World):(zeroValue t).run P w= .ok (ti.zero.den ρ) w:=by
  obtain ⟨⟨info,h1,_,_,h4⟩,_⟩:=ht
  simp only [zeroValue,typeInfo,Sem.run_bind,run_program,Result.andThen_ok,h1,Sem.run_pure,h4 ρ]
def zfl (flds:List Field):Sem (List (Nat×Nat)):=List.mapM (m:=Sem) (fun (f:Field)=>do
  let s ←sizeOf f.type
  pure (f.offset,s)) flds
theorem zri (hΓ:CtxOK P Γ) {K:Prop}: ∀{flds:List Field} {fs:List (Nat×TypeId)},(flds.map fun (f:Field)=>(f.offset,f.type))=fs→zlu Γ fs K→
    K∧ ∃places:List (Nat×Nat),(∀w,(zfl flds).run P w= .ok places w)∧
     ∀(i c:Nat) (t:TypeId) (ti:TyI),fs[i]?=some (c,t)→y3 Γ.ty t=some ti→(places[i]?:Option (Nat×Nat))=some (c,ti.sz)
  | [],fs,hfs,h=>by
    subst hfs
    exact ⟨h,[],fun w=>rfl,fun i c t ti hi=>by simp at hi⟩
  |f ::flds,fs,hfs,h=>by
   subst hfs
   simp only [List.map_cons,zlu] at h
   obtain ⟨ti,ht,h⟩:=z6 h
   obtain ⟨hK,places,h1,h2⟩:=zri hΓ (flds:=flds) rfl h
   refine ⟨hK,(f.offset,ti.sz) ::places,fun w=>?_,fun i c t ti' hi hti=>?_⟩
   ·have h1':=h1 w
    unfold zfl at h1' ⊢
    rw [List.mapM_cons]
    simp only [Sem.run_bind,yg (hΓ.ty _ ti ht),Result.andThen_ok,Sem.run_pure,h1']
   ·cases i with
    |zero=>
     simp at hi
     obtain ⟨rfl,rfl⟩:=hi
     rw [ht] at hti;cases hti;rfl
    |succ i=>simpa using h2 i c t ti' (by simpa using hi) hti
theorem z17 (hΓ:CtxOK P Γ) {t:TypeId} {given:List (Nat×SV)} {K:SV→Prop} (hg: ∀g∈given,g.2.ok p) (h:zq0 Γ t given K):
    ∃v:SV,K v∧v.ok p∧ ∀w,(Instr.build t (given.map fun g=>(g.1,g.2.den ρ)).toArray).run P w= .ok (v.den ρ) w:=by
  unfold zq0 at h
  obtain ⟨ti,ht,h⟩:=z6 h
  have hT:=hΓ.ty t ti ht
  have hu:=hT.2.2.1
  split at h
  ·rename_i hm
   obtain ⟨zs,h,hz1,_,hz3⟩:=zei (p:=p) ρ h
   have hzok:okL p zs:=hz3 (SV.ok_mono (fun _ hf=>hf.elim) _ hT.2.1.1)
   have hzc: ∀w,(zeroValue t).run P w= .ok (.agg (zq ρ zs).toArray) w:=fun w=>by rw [zap (ρ:=ρ) hT,zca hm,hz1]
   split at h
   ·rename_i fs hd
    rw [hd] at hu
    obtain ⟨flds,hu,hfs,hn⟩:=hu
    obtain ⟨h,places,hpl,hpi⟩:=zri hΓ hfs h
    obtain ⟨ps',h1,h2,h3⟩:=zig (ρ:=ρ) hΓ (place:=(places.toArray[·]?)) (fun i c t ti h1 h2=>by simpa using hpi i c t ti h1 h2) hzok hg h
    refine ⟨_,h1,h2,fun w=>?_⟩
    simp only [Instr.build,Sem.run_bind,hzc,Result.andThen_ok,run_underlying hu,Value.cells]
    have hmm:(Array.mapM (m:=Sem) (fun (f:Field)=>do let s ←sizeOf f.type;pure (f.offset,s)) flds).run P w= .ok places.toArray w:=by
      rw [Array.mapM_eq_mapM_toList]
      have:=hpl w
      unfold zfl at this
      simp only [Sem.run_map,this,Result.andThen_ok]
    simp only [Sem.run_bind,hmm,Result.andThen_ok,h3]
    rfl
   ·rename_i n e hd
    rw [hd] at hu
    obtain ⟨ei,he,h⟩:=z6 h
    have hE:=hΓ.ty e ei he
    obtain ⟨ps',h1,h2,h3⟩:=zf7 (ρ:=ρ) hzok hg h
    obtain ⟨v,hvm,hvc,hvo,hk⟩:=zvm (p:=p) h1
    refine ⟨v,hk,hvo h2,fun w=>?_⟩
    simp only [Instr.build,Sem.run_bind,hzc,Result.andThen_ok,run_underlying hu,Value.cells,yg hE,h3]
    rw [zca hvm,hvc];rfl
   ·exact h.elim
  ·exact h.elim
theorem zl2 {z:SV}: ∀{n:Nat} {k:List SV→Prop},zth z n k→k (List.replicate n z)
  |0,_,h=>h
  |n+1,k,h=>by rw [List.replicate_succ];exact zl2 (k:=fun l=>k (z ::l)) h
theorem zml (Z:Array Value) (m:Nat) (v:Value) (hz:0<Z.size) (h: ∀i,i<Z.size→Z[i]! =v):(madeCells Z m).toList=List.replicate m v:=by
  apply List.ext_getElem?
  intro i
  simp only [madeCells]
  rcases Nat.lt_or_ge i m with hi|hi
  ·simp [hi,h (i%Z.size) (Nat.mod_lt _ hz)]
  ·simp [List.getElem?_eq_none,hi]
theorem zwn {z:SV} {c:Nat} {K:List SV→Prop} (h:zr9 z c K):
    ∃ps,K ps∧okL p ps∧(madeCells (z.den ρ).cells (c*z.size)).toList=zq ρ ps:=by
  have one: ∀v:Value,madeCells #[v] c=(List.replicate c v).toArray:=fun v=>by
    apply Array.ext'
    exact zml #[v] c v (by simp) (fun i hi=>by simp at hi;subst hi;rfl)
  have rep: ∀u:SV,∀n,u.scalar=true→zq ρ (List.replicate n u)=List.replicate n (u.den ρ):=by
    intro u n hu
    induction n with
    |zero=>rfl
    |succ n ih=>simp only [List.replicate_succ,zq,zar hu,ih];rfl
  have repok: ∀u:SV,∀n,u.ok p→okL p (List.replicate n u):=by
    intro u n hu
    induction n with
    |zero=>trivial
    |succ n ih=>exact ⟨hu,ih⟩
  unfold zr9 at h
  split at h
  ·exact ⟨_,h,⟨by simp [SV.ok],trivial⟩,by simp [SV.den,Value.cells,SV.size,one,zq,SV.cells,c8]⟩
  ·exact ⟨_,h,⟨by simp [SV.ok],trivial⟩,by simp [SV.den,Value.cells,SV.size,one,zq,SV.cells,c32]⟩
  ·exact ⟨_,h,⟨by simp [SV.ok],trivial⟩,by simp [SV.den,Value.cells,SV.size,one,zq,SV.cells,c64]⟩
  ·exact ⟨_,h,⟨by simp [SV.ok],trivial⟩,by simp [SV.den,Value.cells,SV.size,one,zq,SV.cells,ci]⟩
  ·exact ⟨_,h,⟨by simp [SV.ok],trivial⟩,by simp [SV.den,Value.cells,SV.size,one,zq,SV.cells,cs]⟩
  ·refine ⟨_,h,⟨by simp [SV.ok],trivial⟩,?_⟩
   simp only [SV.den,Value.cells,SV.size,one,zq,SV.cells,List.append_nil,Nat.mul_one]
   apply List.ext_getElem?
   intro i
   rename_i x
   have hl:(x5 c fun _=> [At.bool x]).length=c*1:=xq c 1 _ (fun _ _=>rfl)
   rcases Nat.lt_or_ge i c with hi|hi
   ·have:=zc2 c 1 (fun _=> [At.bool x]) (fun _ _=>rfl) i 0 hi (by omega)
    simp only [Nat.mul_one,Nat.add_zero] at this
    rw [this];simp [hi];rfl
   ·rw [List.getElem?_eq_none (by simp;omega),List.getElem?_eq_none (by omega)]
  ·rename_i m x l
   obtain ⟨h1,h⟩:=zm h
   refine ⟨_,h,⟨by simp [SV.ok],trivial⟩,?_⟩
   simp only [SV.den,Value.cells,SV.size,zq,SV.cells,List.append_nil,h1]
   rw [zml _ _ (.int .u8 (x.toNat:Int))]
   ·simp [c8]
   ·have:(x ::l).length=m:=by rw [h1];simp
    simp [c8] at this ⊢;omega
   ·intro i hi
    simp [c8] at hi ⊢
    simp [hi]
  ·rename_i ps
   obtain ⟨as,h',hps⟩:=zie h
   clear h
   have h:=h'
   clear h'
   subst hps
   split at h
   ·exact h.elim
   ·rename_i a r
    refine ⟨_,h,⟨fun i _=>by simp,trivial⟩,?_⟩
    have hsz: ∀as:List At,z8 (as.map At.sv)=as.length:=fun as=>by
      induction as with
      |nil=>rfl
      |cons a as ih=>simp only [List.map_cons,z8,zx0 (At.sv_scalar a),ih,List.length_cons];omega
    simp only [SV.den,Value.cells,SV.size,zq,SV.cells,List.append_nil,hsz,zjh]
    apply List.ext_getElem?
    intro i
    simp only [madeCells]
    by_cases hi:i<c*(r.length+1)
    ·have hp:0<r.length+1:=by omega
     have hq:i/ (r.length+1)<c:=Nat.div_lt_of_lt_mul (by rwa [Nat.mul_comm] at hi)
     have hm:=Nat.mod_lt i hp
     have e:i=i/ (r.length+1)*(r.length+1)+i%(r.length+1):=by rw [Nat.mul_comm];exact (Nat.div_add_mod _ _).symm
     conv=>rhs;rw [e]
     rw [zc2 c (r.length+1) _ (fun _ _=>by simp) _ _ hq hm]
     simp [hi]
     have hm':i%(r.length+1)<(a.val ::r.map At.val).length:=by simpa using hm
     have e2:a.val ::r.map At.val=(a ::r).map At.val:=rfl
     rw [e2,List.getElem?_map]
     have hm2:i%(r.length+1)<(a ::r).length:=by simpa using hm
     rw [List.getElem?_eq_getElem hm2];rfl
    ·have hl:(x5 c fun _=>a ::r).length=c*(r.length+1):=xq c _ _ (fun _ _=>by simp)
     have hl2:((Array.range (c*(a ::r).length)).map fun x=>((a ::r).map At.val).toArray[x%((a ::r).map At.val).toArray.size]!).toList.length=c*(r.length+1):=by simp
     rw [List.getElem?_eq_none (by rw [hl2];omega),List.getElem?_eq_none (by rw [hl];omega)]
  ·exact ⟨_,zl2 h,repok _ _ trivial,by simp only [SV.den,Value.cells,SV.size,Nat.mul_one,one,rep .nilsl _ rfl]⟩
  ·exact ⟨_,zl2 h,repok _ _ trivial,by simp only [SV.den,Value.cells,SV.size,Nat.mul_one,one,rep .nilptr _ rfl]⟩
  ·exact ⟨_,zl2 h,repok _ _ trivial,by simp only [SV.den,Value.cells,SV.size,Nat.mul_one,one,rep .nilif _ rfl]⟩
  ·exact ⟨_,zl2 h,repok _ _ trivial,by simp only [SV.den,Value.cells,SV.size,Nat.mul_one,one,rep .nilfn _ rfl]⟩
  ·exact h.elim
end
end Go.Sym

namespace Go.Sym
section
variable {P:Program} {Γ:Ctx} {p:Nat→Prop} {ρ:Nat→Nat} {hp:List Blk}
theorem zct {n es:Nat} {f:Nat→List At} (h: ∀i,i<n→(f i).length=es):(x5 n f).length=n*es:=by
  unfold x5
  induction n with
  |zero=>simp
  |succ n ih=>
   rw [List.range_succ,List.flatMap_append,List.length_append,ih (fun i hi=>h i (by omega))]
   simp [h n (by omega),Nat.succ_mul]
theorem zia (a b:Nat) (f:Nat→List At):x5 (a+b) f=x5 a f++x5 b (fun j=>f (a+j)):=by
  unfold x5
  rw [List.range_add,List.flatMap_append,List.flatMap_map]
theorem zlz {n:Nat} {f g:Nat→List At} (h: ∀i,i<n→f i=g i):x5 n f=x5 n g:=by
  unfold x5
  rw [List.flatMap_def,List.flatMap_def,List.map_congr_left fun i hi=>by rw [h i (List.mem_range.1 hi)]]
theorem zxd {m i n es:Nat} {f:Nat→List At} (hf: ∀i,i<m→(f i).length=es) (h:i+n≤m):((x5 m f).drop (i*es)).take (n*es)=x5 n (fun j=>f (i+j)):=by
  obtain ⟨r,rfl⟩: ∃r,m=i+n+r:=⟨m-(i+n),by omega⟩
  rw [zia,zia,List.append_assoc]
  have h1:(x5 i f).length=i*es:=zct fun j hj=>hf j (by omega)
  have h2:(x5 n fun j=>f (i+j)).length=n*es:=zct fun j hj=>hf _ (by omega)
  rw [List.drop_left' h1,List.take_left' h2]
theorem zym {m c es:Nat} {f:Nat→List At} (hf: ∀i,i<c→(f i).length=es) (h:m≤c):(x5 c f).drop (m*es)=x5 (c-m) (fun j=>f (m+j)):=by
  obtain ⟨r,rfl⟩: ∃r,c=m+r:=⟨c-m,by omega⟩
  rw [zia,List.drop_left' (zct fun j hj=>hf j (by omega)),Nat.add_sub_cancel_left]
theorem zi6 (ρ:Nat→Nat): ∀as:List At,zq ρ (as.map At.sv)=as.map At.val
  | []=>rfl
  |a ::as=>by
   show (a.sv).cells ρ++zq ρ (as.map At.sv)=a.val ::as.map At.val
   rw [zi6 ρ as]
   cases a<;>rfl
theorem zot {q:SV} {o:List (Nat×Nat)} {n es:Nat} {k:SV→Prop} (h:zkr q o n es k) (hq:q.ok p):
    ∃r,k r∧r.ok p∧off o+n*es≤(q.cells ρ).length∧(∀ρ',r.cells ρ'=((q.cells ρ).drop (off o)).take (n*es))∧One (r.cells ρ):=by
  unfold zkr at h
  split at h
  ·rename_i m l
   obtain ⟨h1,h⟩:=zm h
   exact ⟨_,h,by simp only [SV.ok,List.length_take,List.length_drop];omega,by simp [SV.cells,c8];omega,fun ρ'=>by simp [SV.cells,c8,List.map_take,List.map_drop],One.map _ (fun _=>rfl) _⟩
  ·rename_i m l
   obtain ⟨h1,h⟩:=zm h
   exact ⟨_,h,by simp only [SV.ok,List.length_take,List.length_drop];omega,by simp [SV.cells,ci];omega,fun ρ'=>by simp [SV.cells,ci,List.map_take,List.map_drop],One.map _ (fun _=>rfl) _⟩
  ·rename_i m l
   obtain ⟨h1,h⟩:=zm h
   exact ⟨_,h,by simp only [SV.ok,List.length_take,List.length_drop];omega,by simp [SV.cells,cs];omega,fun ρ'=>by simp [SV.cells,cs,List.map_take,List.map_drop],One.map _ (fun _=>rfl) _⟩
  ·rename_i m e f
   split at h
   ·rename_i he
    have he:=Nat.eq_of_beq_eq_true he
    subst he
    obtain ⟨i,c,ho,h⟩:=zmn h
    split at h
    ·obtain ⟨h1,h⟩:=zm h
     have hf: ∀i,i<m→(f i).length=e:=hq
     have hlen:=zct hf
     rw [Nat.add_zero] at ho
     refine ⟨_,h,fun j hj=>hf _ (by omega),?_,fun ρ'=>?_,?_⟩
     ·simp only [SV.cells];rw [hlen,ho,←Nat.add_mul];exact Nat.mul_le_mul_right _ h1
     ·simp only [SV.cells];rw [ho];exact (zxd hf h1).symm
     ·intro v hv
      simp only [SV.cells,x5,List.mem_flatMap,List.mem_map] at hv
      obtain ⟨i,_,a,_,rfl⟩:=hv
      exact zpg a
    ·exact h.elim
   ·exact h.elim
  ·exact h.elim
theorem zlm {q r:SV} {k:SV→Prop} (h:z2c q r k) (hq:q.ok p) (hr:r.ok p):
    ∃s,k s∧s.ok p∧ ∀ρ',s.cells ρ'=q.cells ρ'++r.cells ρ':=by
  unfold z2c at h
  split at h
  ·split at h
   ·exact ⟨_,h,by simp only [SV.ok,List.length_append] at *;omega,fun ρ'=>by simp [SV.cells,c8]⟩
   ·exact h.elim
  ·split at h
   ·exact ⟨_,h,by simp only [SV.ok,List.length_append] at *;omega,fun ρ'=>by simp [SV.cells,ci]⟩
   ·exact h.elim
  ·split at h
   ·exact ⟨_,h,by simp only [SV.ok,List.length_append] at *;omega,fun ρ'=>by simp [SV.cells,cs]⟩
   ·exact h.elim
  ·rename_i a e f
   split at h
   ·rename_i b e' g
    split at h
    ·rename_i he
     have he:=Nat.eq_of_beq_eq_true he
     subst he
     have hf: ∀i,i<a→(f i).length=e:=hq
     have hg: ∀i,i<b→(g i).length=e:=hr
     refine ⟨_,h,fun i hi=>?_,fun ρ'=>?_⟩
     ·show (if i<a then f i else g (i-a)).length=e
      split
      ·exact hf i (by assumption)
      ·exact hg _ (by omega)
     ·simp only [SV.cells]
      rw [zia]
      congr 1
      ·exact zlz fun i hi=>by rw [if_pos hi]
      ·exact zlz fun i hi=>by rw [if_neg (by omega),Nat.add_sub_cancel_left]
    ·exact h.elim
   ·exact h.elim
  ·exact h.elim
theorem zqc {α:Type} (g:α→Value) (l:List α) (t:Nat):(List.replicate t (l.map g)).flatten=((List.replicate t l).flatten).map g:=by
  rw [List.map_flatten,List.map_replicate]
theorem ziy {α:Type} (l:List α) (t:Nat):((List.replicate t l).flatten).length=t*l.length:=by
  induction t with
  |zero=>simp
  |succ t ih=>rw [List.replicate_succ,List.flatten_cons,List.length_append,ih,Nat.succ_mul];omega
theorem zvi {z q:SV} {es:Nat} {k:Nat→SV→Prop} (h:zn5 z q es k) (hz:z.ok (fun _=>False)) (hs:z.size=es) (t:Nat):
    ∃r,k t r∧r.ok p∧ ∀ρ',r.cells ρ'=(List.replicate t (z.cells ρ)).flatten:=by
  unfold zn5 at h
  split at h
  ·split at h
   ·rename_i m l
    have hl:l.length=m:=hz
    have hm:m=es:=hs
    exact ⟨_,xp h ⟨t,(List.replicate t l).flatten,by rw [ziy,hl,hm]⟩,by simp only [SV.ok];rw [ziy,hl,hm],fun ρ'=>by simp only [SV.cells,c8];rw [zqc]⟩
   ·exact h.elim
  ·split at h
   ·rename_i x
    have hm:es=1:=hs.symm
    exact ⟨_,xp h ⟨t,List.replicate t x,by rw [List.length_replicate,hm,Nat.mul_one]⟩,by simp only [SV.ok];rw [List.length_replicate,hm,Nat.mul_one],fun ρ'=>by simp only [SV.cells,ci];rw [List.map_replicate];simp⟩
   ·exact h.elim
  ·split at h
   ·rename_i x
    have hm:es=1:=hs.symm
    exact ⟨_,xp h ⟨t,List.replicate t x,by rw [List.length_replicate,hm,Nat.mul_one]⟩,by simp only [SV.ok];rw [List.length_replicate,hm,Nat.mul_one],fun ρ'=>by simp only [SV.cells,cs];rw [List.map_replicate];simp⟩
   ·exact h.elim
  ·split at h
   ·split at h
    ·rename_i zs
     obtain ⟨as,h2,he⟩:=zie h
     subst he
     have hsz:as.length=es:=by
       have:=SV.cells_length (p:=fun _=>False) (fun x=>x) (SV.agg (as.map At.sv)) hz
       rw [hs] at this
       simp only [SV.cells,zi6] at this
       simpa using this
     refine ⟨_,xp h2 ⟨t,fun _=>as,fun i _=>hsz⟩,fun i _=>hsz,fun ρ'=>?_⟩
     simp only [SV.cells,zi6,x5]
     rw [List.flatMap_def,List.map_const']
     simp
    ·exact h.elim
   ·exact h.elim
  ·exact h.elim
theorem z4s {z q:SV} {es c m:Nat} {k:Nat→SV→Prop} (h:zn5 z q es k) (hq:q.ok p) (hs:q.size=c*es) (hm:m≤c):
    ∃r,k (c-m) r∧r.ok p∧ ∀ρ',r.cells ρ'=(q.cells ρ).drop (m*es):=by
  have hle:c*es-m*es=(c-m)*es:=(Nat.sub_mul c m es).symm
  unfold zn5 at h
  split at h
  ·rename_i n l
   have hl:l.length=n:=hq
   have hn:n=c*es:=hs
   split at h
   ·exact ⟨_,xp h ⟨c-m,l.drop (m*es),by rw [List.length_drop,hl,hn,hle]⟩,by simp only [SV.ok];rw [List.length_drop,hl,hn,hle],fun ρ'=>by simp [SV.cells,c8,List.map_drop]⟩
   ·exact h.elim
  ·rename_i n l
   have hl:l.length=n:=hq
   have hn:n=c*es:=hs
   split at h
   ·exact ⟨_,xp h ⟨c-m,l.drop (m*es),by rw [List.length_drop,hl,hn,hle]⟩,by simp only [SV.ok];rw [List.length_drop,hl,hn,hle],fun ρ'=>by simp [SV.cells,ci,List.map_drop]⟩
   ·exact h.elim
  ·rename_i n l
   have hl:l.length=n:=hq
   have hn:n=c*es:=hs
   split at h
   ·exact ⟨_,xp h ⟨c-m,l.drop (m*es),by rw [List.length_drop,hl,hn,hle]⟩,by simp only [SV.ok];rw [List.length_drop,hl,hn,hle],fun ρ'=>by simp [SV.cells,cs,List.map_drop]⟩
   ·exact h.elim
  ·rename_i n e f
   split at h
   ·rename_i hee
    have hee:=Nat.eq_of_beq_eq_true hee
    subst hee
    split at h
    ·obtain ⟨as,h2,he⟩:=zie h
     have hf: ∀i,i<n→(f i).length=e:=hq
     have hn:n*e=c*e:=hs
     by_cases h0:e=0
     ·subst h0
      refine ⟨_,xp h2 ⟨c-m,fun _=> [],fun i _=>rfl⟩,fun i _=>rfl,fun ρ'=>?_⟩
      simp only [SV.cells]
      have e1:=zct hf
      have e2:(x5 (c-m) fun _=>([]:List At)).length=(c-m)*0:=zct fun i _=>rfl
      rw [Nat.mul_zero] at e1 e2
      rw [List.length_eq_zero_iff.1 e1,List.length_eq_zero_iff.1 e2];rfl
     ·have hnc:n=c:=Nat.eq_of_mul_eq_mul_right (Nat.pos_of_ne_zero h0) hn
      subst hnc
      refine ⟨_,xp h2 ⟨n-m,fun j=>f (m+j),fun i hi=>hf _ (by omega)⟩,fun i hi=>hf _ (by have hi':i<n-m:=hi;omega),fun ρ'=>?_⟩
      simp only [SV.cells]
      exact (zym hf hm).symm
    ·exact h.elim
   ·exact h.elim
  ·exact h.elim
end
end Go.Sym
