/-
  Contracts of functions of the program, each said of symbolic values, and plain laws; no condition beyond each statement's own.
-/
import Derived.Test.YtmmpgjcpielefaaGreatGLStreamActs5
import Derived.Laws.MakeOwn
import Derived.Laws.BytesArg
set_option linter.unusedSimpArgs false
set_option linter.unusedVariables false
namespace Go.Sym
section
variable {P:Program} {Γ:Ctx} {p:Nat→Prop} {ρ:Nat→Nat} {hp:List Blk}
theorem zch {k:Nat} {K:TypeId→List SV→Prop} (h:zee hp k K): ∃el ps,hp[k]?=some (.mk el ps)∧K el ps:=by
  unfold zee at h
  obtain ⟨b,h1,h⟩:=zdo h
  split at h
  ·exact ⟨_,_,h1,h⟩
  ·exact h.elim
theorem zpi {b:Blk} {K:Nat→List Blk→Prop} (h:zn6 hp b K):K hp.length (hp++ [b]):=by
  unfold zn6 at h
  exact zc7 (zev h)
theorem zkw {w:World} (hr:HpRel ρ hp w) {v:SV} {K:List UInt8→Prop} (h:zi7 hp v K):
    ∃l,K l∧(v.den ρ).cells.size=1∧ ∀w':World,(∀a,w'.cell? a=w.cell? a)→(Builtin.lenOf (v.den ρ)).run P w'= .ok l.length w'∧
     (∀m,m≤l.length→(Builtin.firstCells 1 m (v.den ρ)).run P w'= .ok (c8 (l.take m)).toArray w')∧
     ((∀s,v≠ .str s)→(Conv.bytesToString (v.den ρ)).run P w'= .ok (.string ⟨l.toArray⟩) w'):=by
  unfold zi7 at h
  split at h
  ·rename_i l
   refine ⟨l,h,rfl,fun w' _=>⟨?_,fun m hm=>?_,fun hn=>absurd rfl (hn l)⟩⟩
   ·simp [Builtin.lenOf,SV.den,ByteArray.size]
   ·simp only [Builtin.firstCells,SV.den,Sem.run_pure,zov]
    congr 1
    apply Array.ext'
    simp [c8]
  ·refine ⟨[],h,rfl,fun w' _=>⟨rfl,fun m hm=>?_,fun _=>rfl⟩⟩
   simp [Builtin.firstCells,SV.den,c8]
  ·rename_i k j b o n c
   unfold z6g at h
   obtain ⟨el,ps,hk,h⟩:=zch h
   obtain ⟨a,r,he,hb,h'⟩:=ze9 h
   clear h
   have h:=h'
   clear h'
   split at h
   ·rename_i q r'
    split at h
    ·rename_i m l
     obtain ⟨h1,h⟩:=zq h
     have hcell:=fun i=>hr.cell hk i
     obtain ⟨hok,_⟩:=hr.mem k el ps hk
     rw [he] at hok hcell
     obtain ⟨hoa,_⟩:=xi.1 hok
     have hla:(zw ρ a).length=b:=by rw [xo ρ a hoa,hb]
     have hload: ∀w':World,(∀a,w'.cell? a=w.cell? a)→ ∀m',m'≤n→(loadCells ⟨ρ k,b+off o,none⟩ m').run P w'= .ok (c8 ((l.drop (off o)).take m')).toArray w':=by
       intro w' hw' m' hm'
       have hlen:(c8 ((l.drop (off o)).take m')).length=m':=by simp [c8];omega
       have:=zak (P:=P) (w:=w') (b:=ρ k) (s:=b+off o) (L:=zw ρ (a++SV.arr8 m l ::r')) (M:=c8 ((l.drop (off o)).take m'))
         (fun i=>by rw [hw',hcell]) (fun i hi=>by
           have hi':i<m':=by omega
           rw [Nat.add_assoc]
           have e:(c8 ((l.drop (off o)).take m'))[i]?=(c8 l)[off o+i]?:=by simp [c8,List.getElem?_take,hi',List.getElem?_drop]
           have hx:off o+i<(c8 l).length:=by simp [c8];omega
           rw [e,List.getElem?_eq_getElem hx]
           exact zmv hla (by show (c8 l)[_]?=_;rw [List.getElem?_eq_getElem hx]))
       rw [hlen] at this
       exact this
     refine ⟨_,h,rfl,fun w' hw'=>⟨?_,fun m' hm'=>?_,fun _=>?_⟩⟩
     ·simp only [Builtin.lenOf,SV.den,Sem.run_pure]
      congr 1;simp;omega
     ·have hm2:m'≤n:=by simp at hm';omega
      simp only [Builtin.firstCells,SV.den,Nat.mul_one]
      rw [hload w' hw' m' hm2,List.take_take,Nat.min_eq_left hm2]
     ·have:=run_bytesToString (P:=P) w' ⟨ρ k,b+off o,none⟩ n c (((l.drop (off o)).take n).map fun x=>(x.toNat:Int)) (by
        rw [hload w' hw' n (Nat.le_refl _)];congr 1;simp [c8];rfl)
      simp only [SV.den]
      rw [this,foldl_push_bytes]
      congr 2
      apply ByteArray.ext
      have e:((fun n:Int=>UInt8.ofNat n.toNat)∘ fun x:UInt8=>(x.toNat:Int))=id:=by funext x;simp
      simp [e]
    ·exact h.elim
   ·exact h.elim
  ·exact h.elim
theorem z2i (l:List Value): ∀(o:Nat) (cs:Array Value),o+l.length≤cs.size→
    (l.zipIdx.foldl (fun (cs:Array Value) (x:Value×Nat)=>cs.setIfInBounds (o+x.2) x.1) cs)=(zx cs.toList o l).toArray:=by
  have key: ∀(l:List Value) (s o:Nat) (cs:Array Value),o+s+l.length≤cs.size→
    ((l.zipIdx s).foldl (fun (cs:Array Value) (x:Value×Nat)=>cs.setIfInBounds (o+x.2) x.1) cs)=(zx cs.toList (o+s) l).toArray:=by
    intro l
    induction l with
    |nil=>intro s o cs h;simp [zx]
    |cons v l ih=>
     intro s o cs h
     simp only [List.length_cons] at h
     simp only [List.zipIdx_cons,List.foldl_cons]
     rw [ih (s+1) o _ (by simp;omega)]
     congr 1
     simp only [Array.toList_setIfInBounds]
     have hi:o+s<cs.toList.length:=by simp;omega
     have hi2:o+s<cs.size:=by omega
     simp only [zx]
     have e1:(cs.toList.set (o+s) v).take (o+(s+1))=cs.toList.take (o+s)++ [v]:=by
       rw [show o+(s+1)=(o+s)+1 by omega,List.take_add_one,List.take_set,List.set_eq_of_length_le (by simp;omega),List.getElem?_set_self hi]
       rfl
     have e2:(cs.toList.set (o+s) v).drop (o+(s+1)+l.length)=cs.toList.drop (o+s+(l.length+1)):=by
       rw [List.drop_set_of_lt (by omega),show o+(s+1)+l.length=o+s+(l.length+1) by omega]
     rw [e1,e2];simp
  intro o cs h
  have:=key l 0 o cs (by omega)
  simpa using this
theorem zrk {place:Nat→Option (Nat×Nat)} {L M L':List Value} {i s sz:Nat} {v:Value} {rest:List (Nat×Value)} (hp:place i=some (s,sz)) (hv:v.cells=M.toArray) (hsz:M.length=sz)
    (hw:zj5 L s M L'):Instr.fill place L.toArray ((i,v) ::rest)=Instr.fill place L'.toArray rest:=by
  obtain ⟨h1,h2,_⟩:=hw
  subst h1
  conv=>lhs;unfold Instr.fill
  simp only [hp,hv]
  have h3:(decide (M.toArray.size≠sz)||decide (s+M.toArray.size>L.toArray.size))=false:=by simp;omega
  rw [h3]
  have:=z2i M s L.toArray (by simpa using h2)
  simp only [Bool.false_eq_true,if_false]
  rw [←this]
  congr 1
  simp
theorem zxj {ei:TyI} {ps:List SV} {i:Nat} {v:SV} {k:List SV→Prop} (hps:okL p ps) (hv:v.ok p) (h:zhd ei ps i v k):
    ∃ps',k ps'∧okL p ps'∧(v.cells ρ).length=ei.sz∧zj5 (zw ρ ps) (i*ei.sz) (v.cells ρ) (zw ρ ps'):=by
  have walk:(zg8 ps 0 0 (i*ei.sz) fun j b o=>zfv ei ps j b o v k)→ ∃ps',k ps'∧okL p ps'∧(v.cells ρ).length=ei.sz∧zj5 (zw ρ ps) (i*ei.sz) (v.cells ρ) (zw ρ ps'):=by
    intro h
    obtain ⟨j,b,o,he,h⟩:=zm5 h
    obtain ⟨ps',h1,h2,h3,h4⟩:=zkh (ρ:=ρ) hps hv h
    refine ⟨ps',h1,h2,h3,?_⟩
    rw [he] at h4;simpa using h4
  unfold zhd at h
  dsimp only at h
  split at h
  ·split at h
   ·obtain ⟨ps',h1,h2,h3,h4⟩:=zkh (ρ:=ρ) hps hv h
    refine ⟨ps',h1,h2,h3,?_⟩
    simpa [off,zc3] using h4
   ·exact walk h
  ·exact walk h
theorem zhb {ei:TyI}: ∀{given:List (Nat×SV)} {ps:List SV} {k:List SV→Prop},okL p ps→(∀g∈given,g.2.ok p)→zez ei ps given k→
    ∃ps',k ps'∧okL p ps'∧Instr.fill (fun i=>some (i*ei.sz,ei.sz)) (zw ρ ps).toArray (given.map fun g=>(g.1,g.2.den ρ))=some (zw ρ ps').toArray
  | [],ps,k,hps,_,h=>⟨ps,h,hps,rfl⟩
  |(i,v) ::r,ps,k,hps,hg,h=>by
   obtain ⟨ps1,h1,h2,h3,h4⟩:=zxj (ρ:=ρ) hps (hg (i,v) (by simp)) h
   obtain ⟨ps2,g1,g2,g3⟩:=zhb (given:=r) h2 (fun g hgr=>hg g (by simp [hgr])) h1
   refine ⟨ps2,g1,g2,?_⟩
   rw [List.map_cons,zrk (M:=v.cells ρ) rfl (zdy ρ v) h3 h4]
   exact g3
theorem zjr (hΓ:CtxOK P Γ) {fs:List (Nat×TypeId)} {place:Nat→Option (Nat×Nat)}
    (hplace: ∀i c t ti,fs[i]?=some (c,t)→y8 Γ.ty t=some ti→place i=some (c,ti.sz)): ∀{given:List (Nat×SV)} {ps:List SV} {k:List SV→Prop},okL p ps→(∀g∈given,g.2.ok p)→zed Γ fs ps given k→
    ∃ps',k ps'∧okL p ps'∧Instr.fill place (zw ρ ps).toArray (given.map fun g=>(g.1,g.2.den ρ))=some (zw ρ ps').toArray
  | [],ps,k,hps,_,h=>⟨ps,h,hps,rfl⟩
  |(i,v) ::r,ps,k,hps,hg,h=>by
   unfold zed at h
   obtain ⟨ft,hft,h⟩:=zdo h
   obtain ⟨fi,hfi,h⟩:=yd h
   obtain ⟨j,b,o,he,h⟩:=zm5 h
   obtain ⟨ps1,h1,h2,h3,h4⟩:=zkh (ρ:=ρ) hps (hg (i,v) (by simp)) h
   obtain ⟨ps2,g1,g2,g3⟩:=zjr hΓ hplace (given:=r) h2 (fun g hgr=>hg g (by simp [hgr])) h1
   refine ⟨ps2,g1,g2,?_⟩
   rw [he] at h4
   rw [List.map_cons,zrk (M:=v.cells ρ) (hplace i ft.1 ft.2 fi hft hfi) (zdy ρ v) h3 (by simpa using h4)]
   exact g3
theorem zbh {t:TypeId} {ti:TyI} (ht:yt P t ti) (w:World):(zeroValue t).run P w= .ok (ti.zero.den ρ) w:=by
  obtain ⟨⟨info,h1,_,_,h4⟩,_⟩:=ht
  simp only [zeroValue,typeInfo,Sem.run_bind,run_program,Result.andThen_ok,h1,Sem.run_pure,h4 ρ]
def zhg (flds:List Field):Sem (List (Nat×Nat)):=List.mapM (m:=Sem) (fun (f:Field)=>do
  let s ←sizeOf f.type
  pure (f.offset,s)) flds
theorem zwv (hΓ:CtxOK P Γ) {K:Prop}: ∀{flds:List Field} {fs:List (Nat×TypeId)},(flds.map fun (f:Field)=>(f.offset,f.type))=fs→znu Γ fs K→
    K∧ ∃places:List (Nat×Nat),(∀w,(zhg flds).run P w= .ok places w)∧
     ∀(i c:Nat) (t:TypeId) (ti:TyI),fs[i]?=some (c,t)→y8 Γ.ty t=some ti→(places[i]?:Option (Nat×Nat))=some (c,ti.sz)
  | [],fs,hfs,h=>by
    subst hfs
    exact ⟨h,[],fun w=>rfl,fun i c t ti hi=>by simp at hi⟩
  |f ::flds,fs,hfs,h=>by
   subst hfs
   simp only [List.map_cons,znu] at h
   obtain ⟨ti,ht,h⟩:=yd h
   obtain ⟨hK,places,h1,h2⟩:=zwv hΓ (flds:=flds) rfl h
   refine ⟨hK,(f.offset,ti.sz) ::places,fun w=>?_,fun i c t ti' hi hti=>?_⟩
   ·have h1':=h1 w
    unfold zhg at h1' ⊢
    rw [List.mapM_cons]
    simp only [Sem.run_bind,yp (hΓ.ty _ ti ht),Result.andThen_ok,Sem.run_pure,h1']
   ·cases i with
    |zero=>
     simp at hi
     obtain ⟨rfl,rfl⟩:=hi
     rw [ht] at hti;cases hti;rfl
    |succ i=>simpa using h2 i c t ti' (by simpa using hi) hti
theorem z5q (hΓ:CtxOK P Γ) {t:TypeId} {given:List (Nat×SV)} {K:SV→Prop} (hg: ∀g∈given,g.2.ok p) (h:zts Γ t given K):
    ∃v:SV,K v∧v.ok p∧ ∀w,(Instr.build t (given.map fun g=>(g.1,g.2.den ρ)).toArray).run P w= .ok (v.den ρ) w:=by
  unfold zts at h
  obtain ⟨ti,ht,h⟩:=yd h
  have hT:=hΓ.ty t ti ht
  have hu:=hT.2.2.1
  split at h
  ·rename_i hm
   obtain ⟨zs,h,hz1,_,hz3⟩:=zfs (p:=p) ρ h
   have hzok:okL p zs:=hz3 (SV.ok_mono (fun _ hf=>hf.elim) _ hT.2.1.1)
   have hzc: ∀w,(zeroValue t).run P w= .ok (.agg (zw ρ zs).toArray) w:=fun w=>by rw [zbh (ρ:=ρ) hT,zdi hm,hz1]
   split at h
   ·rename_i fs hd
    rw [hd] at hu
    obtain ⟨flds,hu,hfs,hn⟩:=hu
    obtain ⟨h,places,hpl,hpi⟩:=zwv hΓ hfs h
    obtain ⟨ps',h1,h2,h3⟩:=zjr (ρ:=ρ) hΓ (place:=(places.toArray[·]?)) (fun i c t ti h1 h2=>by simpa using hpi i c t ti h1 h2) hzok hg h
    refine ⟨_,h1,h2,fun w=>?_⟩
    simp only [Instr.build,Sem.run_bind,hzc,Result.andThen_ok,run_underlying hu,Value.cells]
    have hmm:(Array.mapM (m:=Sem) (fun (f:Field)=>do let s ←sizeOf f.type;pure (f.offset,s)) flds).run P w= .ok places.toArray w:=by
      rw [Array.mapM_eq_mapM_toList]
      have:=hpl w
      unfold zhg at this
      simp only [Sem.run_map,this,Result.andThen_ok]
    simp only [Sem.run_bind,hmm,Result.andThen_ok,h3]
    rfl
   ·rename_i n e hd
    rw [hd] at hu
    obtain ⟨ei,he,h⟩:=yd h
    have hE:=hΓ.ty e ei he
    obtain ⟨ps',h1,h2,h3⟩:=zhb (ρ:=ρ) hzok hg h
    obtain ⟨v,hvm,hvc,hvo,hk⟩:=z1x (p:=p) h1
    refine ⟨v,hk,hvo h2,fun w=>?_⟩
    simp only [Instr.build,Sem.run_bind,hzc,Result.andThen_ok,run_underlying hu,Value.cells,yp hE,h3]
    rw [zdi hvm,hvc];rfl
   ·exact h.elim
  ·exact h.elim
theorem zp4 {z:SV}: ∀{n:Nat} {k:List SV→Prop},zzp z n k→k (List.replicate n z)
  |0,_,h=>h
  |n+1,k,h=>by rw [List.replicate_succ];exact zp4 (k:=fun l=>k (z ::l)) h
theorem zp2 (Z:Array Value) (m:Nat) (v:Value) (hz:0<Z.size) (h: ∀i,i<Z.size→Z[i]! =v):(madeCells Z m).toList=List.replicate m v:=by
  apply List.ext_getElem?
  intro i
  simp only [madeCells]
  rcases Nat.lt_or_ge i m with hi|hi
  ·simp [hi,h (i%Z.size) (Nat.mod_lt _ hz)]
  ·simp [List.getElem?_eq_none,hi]
theorem z0e {z:SV} {c:Nat} {K:List SV→Prop} (h:zw2 z c K):
    ∃ps,K ps∧okL p ps∧(madeCells (z.den ρ).cells (c*z.size)).toList=zw ρ ps:=by
  have one: ∀v:Value,madeCells #[v] c=(List.replicate c v).toArray:=fun v=>by
    apply Array.ext'
    exact zp2 #[v] c v (by simp) (fun i hi=>by simp at hi;subst hi;rfl)
  have rep: ∀u:SV,∀n,u.scalar=true→zw ρ (List.replicate n u)=List.replicate n (u.den ρ):=by
    intro u n hu
    induction n with
    |zero=>rfl
    |succ n ih=>simp only [List.replicate_succ,zw,zbi hu,ih];rfl
  have repok: ∀u:SV,∀n,u.ok p→okL p (List.replicate n u):=by
    intro u n hu
    induction n with
    |zero=>trivial
    |succ n ih=>exact ⟨hu,ih⟩
  unfold zw2 at h
  split at h
  ·exact ⟨_,h,⟨by simp [SV.ok],trivial⟩,by simp [SV.den,Value.cells,SV.size,one,zw,SV.cells,c8]⟩
  ·exact ⟨_,h,⟨by simp [SV.ok],trivial⟩,by simp [SV.den,Value.cells,SV.size,one,zw,SV.cells,c32]⟩
  ·exact ⟨_,h,⟨by simp [SV.ok],trivial⟩,by simp [SV.den,Value.cells,SV.size,one,zw,SV.cells,c64]⟩
  ·exact ⟨_,h,⟨by simp [SV.ok],trivial⟩,by simp [SV.den,Value.cells,SV.size,one,zw,SV.cells,ci]⟩
  ·exact ⟨_,h,⟨by simp [SV.ok],trivial⟩,by simp [SV.den,Value.cells,SV.size,one,zw,SV.cells,cs]⟩
  ·refine ⟨_,h,⟨by simp [SV.ok],trivial⟩,?_⟩
   simp only [SV.den,Value.cells,SV.size,one,zw,SV.cells,List.append_nil,Nat.mul_one]
   apply List.ext_getElem?
   intro i
   rename_i x
   have hl:(zat c fun _=> [At.bool x]).length=c*1:=zah c 1 _ (fun _ _=>rfl)
   rcases Nat.lt_or_ge i c with hi|hi
   ·have:=zd4 c 1 (fun _=> [At.bool x]) (fun _ _=>rfl) i 0 hi (by omega)
    simp only [Nat.mul_one,Nat.add_zero] at this
    rw [this];simp [hi];rfl
   ·rw [List.getElem?_eq_none (by simp;omega),List.getElem?_eq_none (by omega)]
  ·rename_i m x l
   obtain ⟨h1,h⟩:=zq h
   refine ⟨_,h,⟨by simp [SV.ok],trivial⟩,?_⟩
   simp only [SV.den,Value.cells,SV.size,zw,SV.cells,List.append_nil,h1]
   rw [zp2 _ _ (.int .u8 (x.toNat:Int))]
   ·simp [c8]
   ·have:(x ::l).length=m:=by rw [h1];simp
    simp [c8] at this ⊢;omega
   ·intro i hi
    simp [c8] at hi ⊢
    simp [hi]
  ·rename_i ps
   obtain ⟨as,h',hps⟩:=zjk h
   clear h
   have h:=h'
   clear h'
   subst hps
   split at h
   ·exact h.elim
   ·rename_i a r
    refine ⟨_,h,⟨fun i _=>by simp,trivial⟩,?_⟩
    have hsz: ∀as:List At,yc (as.map At.sv)=as.length:=fun as=>by
      induction as with
      |nil=>rfl
      |cons a as ih=>simp only [List.map_cons,yc,z2o (At.sv_scalar a),ih,List.length_cons];omega
    simp only [SV.den,Value.cells,SV.size,zw,SV.cells,List.append_nil,hsz,zlx]
    apply List.ext_getElem?
    intro i
    simp only [madeCells]
    by_cases hi:i<c*(r.length+1)
    ·have hp:0<r.length+1:=by omega
     have hq:i/ (r.length+1)<c:=Nat.div_lt_of_lt_mul (by rwa [Nat.mul_comm] at hi)
     have hm:=Nat.mod_lt i hp
     have e:i=i/ (r.length+1)*(r.length+1)+i%(r.length+1):=by rw [Nat.mul_comm];exact (Nat.div_add_mod _ _).symm
     conv=>rhs;rw [e]
     rw [zd4 c (r.length+1) _ (fun _ _=>by simp) _ _ hq hm]
     simp [hi]
     have hm':i%(r.length+1)<(a.val ::r.map At.val).length:=by simpa using hm
     have e2:a.val ::r.map At.val=(a ::r).map At.val:=rfl
     rw [e2,List.getElem?_map]
     have hm2:i%(r.length+1)<(a ::r).length:=by simpa using hm
     rw [List.getElem?_eq_getElem hm2];rfl
    ·have hl:(zat c fun _=>a ::r).length=c*(r.length+1):=zah c _ _ (fun _ _=>by simp)
     have hl2:((Array.range (c*(a ::r).length)).map fun x=>((a ::r).map At.val).toArray[x%((a ::r).map At.val).toArray.size]!).toList.length=c*(r.length+1):=by simp
     rw [List.getElem?_eq_none (by rw [hl2];omega),List.getElem?_eq_none (by rw [hl];omega)]
  ·exact ⟨_,zp4 h,repok _ _ trivial,by simp only [SV.den,Value.cells,SV.size,Nat.mul_one,one,rep .nilsl _ rfl]⟩
  ·exact ⟨_,zp4 h,repok _ _ trivial,by simp only [SV.den,Value.cells,SV.size,Nat.mul_one,one,rep .nilptr _ rfl]⟩
  ·exact ⟨_,zp4 h,repok _ _ trivial,by simp only [SV.den,Value.cells,SV.size,Nat.mul_one,one,rep .nilif _ rfl]⟩
  ·exact ⟨_,zp4 h,repok _ _ trivial,by simp only [SV.den,Value.cells,SV.size,Nat.mul_one,one,rep .nilfn _ rfl]⟩
  ·exact h.elim
end
end Go.Sym

namespace Go.Sym
section
variable {P:Program} {Γ:Ctx} {p:Nat→Prop} {ρ:Nat→Nat} {hp:List Blk}
theorem zdx {n es:Nat} {f:Nat→List At} (h: ∀i,i<n→(f i).length=es):(zat n f).length=n*es:=by
  unfold zat
  induction n with
  |zero=>simp
  |succ n ih=>
   rw [List.range_succ,List.flatMap_append,List.length_append,ih (fun i hi=>h i (by omega))]
   simp [h n (by omega),Nat.succ_mul]
theorem zkm (a b:Nat) (f:Nat→List At):zat (a+b) f=zat a f++zat b (fun j=>f (a+j)):=by
  unfold zat
  rw [List.range_add,List.flatMap_append,List.flatMap_map]
theorem zoh {n:Nat} {f g:Nat→List At} (h: ∀i,i<n→f i=g i):zat n f=zat n g:=by
  unfold zat
  rw [List.flatMap_def,List.flatMap_def,List.map_congr_left fun i hi=>by rw [h i (List.mem_range.1 hi)]]
theorem z3b {m i n es:Nat} {f:Nat→List At} (hf: ∀i,i<m→(f i).length=es) (h:i+n≤m):((zat m f).drop (i*es)).take (n*es)=zat n (fun j=>f (i+j)):=by
  obtain ⟨r,rfl⟩: ∃r,m=i+n+r:=⟨m-(i+n),by omega⟩
  rw [zkm,zkm,List.append_assoc]
  have h1:(zat i f).length=i*es:=zdx fun j hj=>hf j (by omega)
  have h2:(zat n fun j=>f (i+j)).length=n*es:=zdx fun j hj=>hf _ (by omega)
  rw [List.drop_left' h1,List.take_left' h2]
theorem z18 {m c es:Nat} {f:Nat→List At} (hf: ∀i,i<c→(f i).length=es) (h:m≤c):(zat c f).drop (m*es)=zat (c-m) (fun j=>f (m+j)):=by
  obtain ⟨r,rfl⟩: ∃r,c=m+r:=⟨c-m,by omega⟩
  rw [zkm,List.drop_left' (zdx fun j hj=>hf j (by omega)),Nat.add_sub_cancel_left]
theorem zld (ρ:Nat→Nat): ∀as:List At,zw ρ (as.map At.sv)=as.map At.val
  | []=>rfl
  |a ::as=>by
   show (a.sv).cells ρ++zw ρ (as.map At.sv)=a.val ::as.map At.val
   rw [zld ρ as]
   cases a<;>rfl
theorem zsc {q:SV} {o:List (Nat×Nat)} {n es:Nat} {k:SV→Prop} (h:zm4 q o n es k) (hq:q.ok p):
    ∃r,k r∧r.ok p∧off o+n*es≤(q.cells ρ).length∧(∀ρ',r.cells ρ'=((q.cells ρ).drop (off o)).take (n*es))∧One (r.cells ρ):=by
  unfold zm4 at h
  split at h
  ·rename_i m l
   obtain ⟨h1,h⟩:=zq h
   exact ⟨_,h,by simp only [SV.ok,List.length_take,List.length_drop];omega,by simp [SV.cells,c8];omega,fun ρ'=>by simp [SV.cells,c8,List.map_take,List.map_drop],One.map _ (fun _=>rfl) _⟩
  ·rename_i m l
   obtain ⟨h1,h⟩:=zq h
   exact ⟨_,h,by simp only [SV.ok,List.length_take,List.length_drop];omega,by simp [SV.cells,ci];omega,fun ρ'=>by simp [SV.cells,ci,List.map_take,List.map_drop],One.map _ (fun _=>rfl) _⟩
  ·rename_i m l
   obtain ⟨h1,h⟩:=zq h
   exact ⟨_,h,by simp only [SV.ok,List.length_take,List.length_drop];omega,by simp [SV.cells,cs];omega,fun ρ'=>by simp [SV.cells,cs,List.map_take,List.map_drop],One.map _ (fun _=>rfl) _⟩
  ·rename_i m e f
   split at h
   ·rename_i he
    have he:=Nat.eq_of_beq_eq_true he
    subst he
    obtain ⟨i,c,ho,h⟩:=zoo h
    split at h
    ·obtain ⟨h1,h⟩:=zq h
     have hf: ∀i,i<m→(f i).length=e:=hq
     have hlen:=zdx hf
     rw [Nat.add_zero] at ho
     refine ⟨_,h,fun j hj=>hf _ (by omega),?_,fun ρ'=>?_,?_⟩
     ·simp only [SV.cells];rw [hlen,ho,←Nat.add_mul];exact Nat.mul_le_mul_right _ h1
     ·simp only [SV.cells];rw [ho];exact (z3b hf h1).symm
     ·intro v hv
      simp only [SV.cells,zat,List.mem_flatMap,List.mem_map] at hv
      obtain ⟨i,_,a,_,rfl⟩:=hv
      exact zub a
    ·exact h.elim
   ·exact h.elim
  ·exact h.elim
theorem zoc {q r:SV} {k:SV→Prop} (h:z50 q r k) (hq:q.ok p) (hr:r.ok p):
    ∃s,k s∧s.ok p∧ ∀ρ',s.cells ρ'=q.cells ρ'++r.cells ρ':=by
  unfold z50 at h
  split at h
  ·split at h
   ·exact ⟨_,h,by simp only [SV.ok,List.length_append] at *;omega,fun ρ'=>by simp [SV.cells,c8]⟩
   ·exact h.elim
  ·split at h
   ·exact ⟨_,h,by simp only [SV.ok,List.length_append] at *;omega,fun ρ'=>by simp [SV.cells,ci]⟩
   ·exact h.elim
  ·split at h
   ·exact ⟨_,h,by simp only [SV.ok,List.length_append] at *;omega,fun ρ'=>by simp [SV.cells,cs]⟩
   ·exact h.elim
  ·rename_i a e f
   split at h
   ·rename_i b e' g
    split at h
    ·rename_i he
     have he:=Nat.eq_of_beq_eq_true he
     subst he
     have hf: ∀i,i<a→(f i).length=e:=hq
     have hg: ∀i,i<b→(g i).length=e:=hr
     refine ⟨_,h,fun i hi=>?_,fun ρ'=>?_⟩
     ·show (if i<a then f i else g (i-a)).length=e
      split
      ·exact hf i (by assumption)
      ·exact hg _ (by omega)
     ·simp only [SV.cells]
      rw [zkm]
      congr 1
      ·exact zoh fun i hi=>by rw [if_pos hi]
      ·exact zoh fun i hi=>by rw [if_neg (by omega),Nat.add_sub_cancel_left]
    ·exact h.elim
   ·exact h.elim
  ·exact h.elim
theorem zsy {α:Type} (g:α→Value) (l:List α) (t:Nat):(List.replicate t (l.map g)).flatten=((List.replicate t l).flatten).map g:=by
  rw [List.map_flatten,List.map_replicate]
theorem zjy {α:Type} (l:List α) (t:Nat):((List.replicate t l).flatten).length=t*l.length:=by
  induction t with
  |zero=>simp
  |succ t ih=>rw [List.replicate_succ,List.flatten_cons,List.length_append,ih,Nat.succ_mul];omega
theorem z1y {z q:SV} {es:Nat} {k:Nat→SV→Prop} (h:zr4 z q es k) (hz:z.ok (fun _=>False)) (hs:z.size=es) (t:Nat):
    ∃r,k t r∧r.ok p∧ ∀ρ',r.cells ρ'=(List.replicate t (z.cells ρ)).flatten:=by
  unfold zr4 at h
  split at h
  ·split at h
   ·rename_i m l
    have hl:l.length=m:=hz
    have hm:m=es:=hs
    exact ⟨_,x0 h ⟨t,(List.replicate t l).flatten,by rw [zjy,hl,hm]⟩,by simp only [SV.ok];rw [zjy,hl,hm],fun ρ'=>by simp only [SV.cells,c8];rw [zsy]⟩
   ·exact h.elim
  ·split at h
   ·rename_i x
    have hm:es=1:=hs.symm
    exact ⟨_,x0 h ⟨t,List.replicate t x,by rw [List.length_replicate,hm,Nat.mul_one]⟩,by simp only [SV.ok];rw [List.length_replicate,hm,Nat.mul_one],fun ρ'=>by simp only [SV.cells,ci];rw [List.map_replicate];simp⟩
   ·exact h.elim
  ·split at h
   ·rename_i x
    have hm:es=1:=hs.symm
    exact ⟨_,x0 h ⟨t,List.replicate t x,by rw [List.length_replicate,hm,Nat.mul_one]⟩,by simp only [SV.ok];rw [List.length_replicate,hm,Nat.mul_one],fun ρ'=>by simp only [SV.cells,cs];rw [List.map_replicate];simp⟩
   ·exact h.elim
  ·split at h
   ·split at h
    ·rename_i zs
     obtain ⟨as,h2,he⟩:=zjk h
     subst he
     have hsz:as.length=es:=by
       have:=SV.cells_length (p:=fun _=>False) (fun x=>x) (SV.agg (as.map At.sv)) hz
       rw [hs] at this
       simp only [SV.cells,zld] at this
       simpa using this
     refine ⟨_,x0 h2 ⟨t,fun _=>as,fun i _=>hsz⟩,fun i _=>hsz,fun ρ'=>?_⟩
     simp only [SV.cells,zld,zat]
     rw [List.flatMap_def,List.map_const']
     simp
    ·exact h.elim
   ·exact h.elim
  ·exact h.elim
theorem yca {z q:SV} {es c m:Nat} {k:Nat→SV→Prop} (h:zr4 z q es k) (hq:q.ok p) (hs:q.size=c*es) (hm:m≤c):
    ∃r,k (c-m) r∧r.ok p∧ ∀ρ',r.cells ρ'=(q.cells ρ).drop (m*es):=by
  have hle:c*es-m*es=(c-m)*es:=(Nat.sub_mul c m es).symm
  unfold zr4 at h
  split at h
  ·rename_i n l
   have hl:l.length=n:=hq
   have hn:n=c*es:=hs
   split at h
   ·exact ⟨_,x0 h ⟨c-m,l.drop (m*es),by rw [List.length_drop,hl,hn,hle]⟩,by simp only [SV.ok];rw [List.length_drop,hl,hn,hle],fun ρ'=>by simp [SV.cells,c8,List.map_drop]⟩
   ·exact h.elim
  ·rename_i n l
   have hl:l.length=n:=hq
   have hn:n=c*es:=hs
   split at h
   ·exact ⟨_,x0 h ⟨c-m,l.drop (m*es),by rw [List.length_drop,hl,hn,hle]⟩,by simp only [SV.ok];rw [List.length_drop,hl,hn,hle],fun ρ'=>by simp [SV.cells,ci,List.map_drop]⟩
   ·exact h.elim
  ·rename_i n l
   have hl:l.length=n:=hq
   have hn:n=c*es:=hs
   split at h
   ·exact ⟨_,x0 h ⟨c-m,l.drop (m*es),by rw [List.length_drop,hl,hn,hle]⟩,by simp only [SV.ok];rw [List.length_drop,hl,hn,hle],fun ρ'=>by simp [SV.cells,cs,List.map_drop]⟩
   ·exact h.elim
  ·rename_i n e f
   split at h
   ·rename_i hee
    have hee:=Nat.eq_of_beq_eq_true hee
    subst hee
    split at h
    ·obtain ⟨as,h2,he⟩:=zjk h
     have hf: ∀i,i<n→(f i).length=e:=hq
     have hn:n*e=c*e:=hs
     by_cases h0:e=0
     ·subst h0
      refine ⟨_,x0 h2 ⟨c-m,fun _=> [],fun i _=>rfl⟩,fun i _=>rfl,fun ρ'=>?_⟩
      simp only [SV.cells]
      have e1:=zdx hf
      have e2:(zat (c-m) fun _=>([]:List At)).length=(c-m)*0:=zdx fun i _=>rfl
      rw [Nat.mul_zero] at e1 e2
      rw [List.length_eq_zero_iff.1 e1,List.length_eq_zero_iff.1 e2];rfl
     ·have hnc:n=c:=Nat.eq_of_mul_eq_mul_right (Nat.pos_of_ne_zero h0) hn
      subst hnc
      refine ⟨_,x0 h2 ⟨n-m,fun j=>f (m+j),fun i hi=>hf _ (by omega)⟩,fun i hi=>hf _ (by have hi':i<n-m:=hi;omega),fun ρ'=>?_⟩
      simp only [SV.cells]
      exact (z18 hf hm).symm
    ·exact h.elim
   ·exact h.elim
  ·exact h.elim
end
end Go.Sym

namespace Go.Sym
section
variable {P:Program} {Γ:Ctx} {ρ:Nat→Nat} {hp:List Blk} {w:World}
def Mem (P:Program) (ρ:Nat→Nat) (hp:List Blk) (w:World) (K:SV→List Blk→Prop) (s:Sem Value):Prop:=
  ∃v ρ' hp' w',s.run P w= .ok (v.den ρ') w'∧v.ok (· <hp'.length)∧Step ρ hp w ρ' hp' w'∧K v hp'
theorem zly (n c:Nat) (b:Blk):(SV.sl hp.length 0 0 [] n c).ok (· <(hp++ [b]).length):=by simp [SV.ok]
theorem zi2 (n c b:Nat):(SV.sl hp.length 0 0 [] n c).den (zg9 ρ hp.length b)= .slice (some ⟨b,0,none⟩) n c:=by simp [SV.den,x7,off]
theorem zkk (e:TypeId) (l:List UInt8) (w:World): ∃(m:Nat) (w':World),
    (Conv.stringToBytes e ⟨l.toArray⟩).run P w= .ok (.slice (some ⟨w.heap.size,0,none⟩) l.length (l.length+m)) w'∧
    w'.heap=w.heap.push (.cells (c8 (l++List.replicate m 0)).toArray e (l.length+m,l.length+m+1))∧w'.os=w.os∧w'.output=w.output∧w'.tape=w.tape:=by
  have hs:(⟨l.toArray⟩:ByteArray).size=l.length:=by simp [ByteArray.size]
  unfold Conv.stringToBytes
  simp only [Sem.run_bind,run_choose,hs]
  have hnf:(Question.appendCap l.length 0 e).forced=false:=rfl
  simp only [hnf,Bool.false_eq_true,if_false,Result.andThen_ok,Question.cut]
  generalize w.tape w.drawn (Question.appendCap l.length 0 e)%(2^63-l.length)=m
  have e1:l.length+m-l.length=m:=by omega
  have e2:(Array.map (fun b=>Value.int IntKind.u8 ↑(UInt8.toNat b)) (⟨l.toArray⟩:ByteArray).data++Array.replicate (l.length+m-l.length) (Value.int .u8 0))=(c8 (l++List.replicate m 0)).toArray:=by
    rw [e1];apply Array.ext';simp [c8]
  rw [e2]
  simp only [newRow,Sem.run_bind,run_newObj,Result.andThen_ok,Sem.run_pure,markStringish,run_shape,World.shape?]
  simp only [Array.getElem?_push,if_pos]
  refine ⟨m,_,rfl,?_,rfl,rfl,rfl⟩
  have hlen:(c8 (l++List.replicate m 0)).toArray.size=l.length+m:=by simp [c8]
  have hne: ¬(1=0):=by omega
  simp only [run_freeze,World.freeze,hne,if_false,hlen]
  apply Array.ext_getElem?
  intro x
  rw [Array.getElem?_modify]
  by_cases hx:w.heap.size=x
  ·subst hx;simp
  ·have hx': ¬x=w.heap.size:=fun e=>hx e.symm
   simp only [hx,hx',if_false,Array.getElem?_push]
theorem yt.under {t:TypeId} {ti:TyI} (h:yt P t ti): ∃d,P.underlying t=some d:=by
  have hu:=h.2.2.1
  cases hd:ti.d<;>rw [hd] at hu<;>simp only at hu
  case ptr=>obtain ⟨e,hu⟩:=hu;exact ⟨_,hu⟩
  case struct=>obtain ⟨e,hu,_⟩:=hu;exact ⟨_,hu⟩
  case func=>obtain ⟨a,b,c,hu⟩:=hu;exact ⟨_,hu⟩
  case iface=>obtain ⟨e,hu⟩:=hu;exact ⟨_,hu⟩
  case other=>obtain ⟨e,hu,_⟩:=hu;exact ⟨_,hu⟩
  all_goals exact ⟨_,hu⟩
theorem Mem.same (hr:HpRel ρ hp w) {v:SV} {K:SV→List Blk→Prop} {s:Sem Value} (hv:v.ok (· <hp.length)) (hk:K v hp) (hs:s.run P w= .ok (v.den ρ) w):Mem P ρ hp w K s:=
  ⟨v,ρ,hp,w,hs,hv,Step.refl hr,hk⟩
theorem yc2 (hΓ:CtxOK P Γ) (hr:HpRel ρ hp w) {s d:TypeId} {x:SV} {K:SV→List Blk→Prop} (h:z9a Γ s d x hp K):
    Mem P ρ hp w K (convert s d (x.den ρ)):=by
  unfold z9a at h
  have hh:=yd h;clear h;obtain ⟨si,hs,h⟩:=hh
  have hS:=hΓ.ty s si hs
  obtain ⟨ds,hds⟩:=hS.under
  have hh:=yd h;clear h;obtain ⟨di,hd,h⟩:=hh
  have hD:=hΓ.ty d di hd
  have hu:=hD.2.2.1
  split at h
  ·rename_i kd hdd
   rw [hdd] at hu
   obtain ⟨sk,n,hn,v,hk,hok,hrun⟩:=zp8 (P:=P) (ρ:=ρ) h
   refine Mem.same hr (hok _) hk ?_
   rw [hn]
   unfold convert
   simp only [Sem.run_bind,run_underlying hds,run_underlying hu,Result.andThen_ok,hrun]
  ·rename_i hdd
   rw [hdd] at hu
   split at h
   ·rename_i l
    refine Mem.same (v:= .str l) hr trivial h ?_
    unfold convert
    simp only [Sem.run_bind,run_underlying hds,run_underlying hu,Result.andThen_ok,SV.den]
    cases ds<;>rfl
   ·split at h
    ·rename_i e he
     have hsu:=hS.2.2.1
     rw [he] at hsu
     have hh:=yd h;clear h;obtain ⟨ei,hei,h⟩:=hh
     have hE:=(hΓ.ty e ei hei).2.2.1
     split at h
     ·rename_i h8
      rw [h8] at hE
      refine Mem.same (v:= .str []) hr trivial h ?_
      unfold convert
      simp only [Sem.run_bind,run_underlying hsu,run_underlying hu,Result.andThen_ok,SV.den,run_underlying hE]
      rfl
     ·exact h.elim
    ·exact h.elim
   ·rename_i k j b o n c
    split at h
    ·rename_i e he
     have hsu:=hS.2.2.1
     rw [he] at hsu
     have hh:=yd h;clear h;obtain ⟨ei,hei,h⟩:=hh
     have hE:=(hΓ.ty e ei hei).2.2.1
     split at h
     ·rename_i h8
      rw [h8] at hE
      obtain ⟨l,h,_,hl⟩:=zkw (P:=P) hr h
      obtain ⟨_,_,h3⟩:=hl w (fun _=>rfl)
      refine Mem.same (v:= .str l) hr trivial h ?_
      have h3':=h3 (fun s hs=>by cases hs)
      unfold convert
      simp only [SV.den] at h3' ⊢
      simp only [Sem.run_bind,run_underlying hsu,run_underlying hu,Result.andThen_ok,run_underlying hE,h3']
     ·exact h.elim
    ·exact h.elim
   ·exact h.elim
  ·rename_i e hdd
   rw [hdd] at hu
   split at h
   ·rename_i l
    have hh:=yd h;clear h;obtain ⟨ei,hei,h⟩:=hh
    have hE:=(hΓ.ty e ei hei).2.2.1
    split at h
    ·rename_i h8
     rw [h8] at hE
     obtain ⟨m,w',h1,h2,h3,h4,h5⟩:=zkk (P:=P) e l w
     have hh:=x0 h (List.replicate m 0);clear h;have h:=hh;clear hh
     have hh:=zpi h;clear h;have h:=hh;clear hh
     have hc:zw ρ [SV.arr8 (l.length+(List.replicate m (0:UInt8)).length) (l++List.replicate m 0)]=c8 (l++List.replicate m 0):=by simp [zw,SV.cells]
     refine ⟨_,zg9 ρ hp.length w.heap.size,_,w',?_,zly _ _ _,Step.alloc (el0:=e) (fz:=(l.length+m,l.length+m+1)) hr (ps:= [SV.arr8 (l.length+(List.replicate m (0:UInt8)).length) (l++List.replicate m 0)]) ⟨by simp [SV.ok],trivial⟩ (by rw [hc];exact h2) (by rw [hc];simp [c8]) h3 h4 h5,h⟩
     rw [zi2]
     unfold convert
     simp only [Sem.run_bind,run_underlying hds,run_underlying hu,Result.andThen_ok,SV.den]
     have: ∀ds:TypeDesc,(match ds,TypeDesc.slice e,Value.string ⟨l.toArray⟩ with
       |_,.int k,.int _ n=>Conv.intToInt k n
       |_,.float k,.int _ n=>Conv.intToFloat k n
       |_,.int k,.float s b=>Conv.floatToInt s b k
       |_,.float k,.float s b=>Conv.floatToFloat s b k
       |_,.complex k,.complex s a b=>Conv.complexToComplex s a b k
       |_,.string,.int _ n=>Conv.intToString n
       |_,.string,.string _=>pure (Value.string ⟨l.toArray⟩)
       |_,.slice e,.string s=>(do
        match ←underlying e with
        | .int .u8=>Conv.stringToBytes e s
        | .int .i32=>Conv.stringToRunes e s
        |_=>stuck "Convert: string to a slice of what?" :Sem Value)
       |_,_,_=>unsupported (.noEntry "convert/other"))=(do
        match ←underlying e with
        | .int .u8=>Conv.stringToBytes e ⟨l.toArray⟩
        | .int .i32=>Conv.stringToRunes e ⟨l.toArray⟩
        |_=>stuck "Convert: string to a slice of what?" :Sem Value):=fun ds=>rfl
     simp only [List.length_replicate]
     rw [←h1]
     cases ds<;>simp only [Sem.run_bind,run_underlying hE,Result.andThen_ok]
    ·exact h.elim
   ·exact h.elim
  ·exact h.elim
theorem ybg (hΓ:CtxOK P Γ) (hr:HpRel ρ hp w) {t ty:TypeId} {ats:List TypeId} {d s:SV} (hd:d.ok (· <hp.length)) {K:SV→List Blk→Prop} (h:z7o Γ t d s hp K):
    Mem P ρ hp w K (Builtin.copy_ (t ::ats).toArray ty #[d.den ρ,s.den ρ]):=by
  unfold z7o at h
  have hh:=yd h;clear h;obtain ⟨ti,ht,h⟩:=hh
  have hT:=hΓ.ty t ti ht
  have hu:=hT.2.2.1
  split at h
  ·rename_i e hdd
   rw [hdd] at hu
   have hh:=yd h;clear h;obtain ⟨ei,he,h⟩:=hh
   have hE:=hΓ.ty e ei he
   split at h
   ·rename_i hsz
    have hsz:=Nat.eq_of_beq_eq_true hsz
    have hh:=zkw (P:=P) hr h;clear h;obtain ⟨l,h,_,hl⟩:=hh
    obtain ⟨hl1,hl2,_⟩:=hl w (fun _=>rfl)
    split at h
    ·refine Mem.same (v:= .int 0) hr trivial h ?_
     unfold Builtin.copy_
     have hm:Nat.min l.length 0=0:=Nat.min_zero _
     have hu':P.underlying t=some (.slice e):=hu
     simp only [SV.den,List.getElem?_toArray,List.getElem?_cons_zero,show ∀x y:Value,(#[x,y]:Array Value)[0]?=some x from fun _ _=>rfl,show ∀x y:Value,(#[x,y]:Array Value)[1]?=some y from fun _ _=>rfl]
     simp only [Sem.run_bind,run_underlying hu',Result.andThen_ok,hl1,hm,yp hE,hsz,hl2 0 (by omega),Sem.run_pure]
     rfl
    ·rename_i k j b o n c
     have hh:=zch h;clear h;obtain ⟨el,ps,hk,h⟩:=hh
     have hh:=ze9 h;clear h;obtain ⟨a,r,hps,hb,h⟩:=hh
     split at h
     ·rename_i m L r'
      have hh:=zq h;clear h;obtain ⟨h1,h⟩:=hh
      have hh:=zes (zfl h);clear h;obtain ⟨hkl,h⟩:=hh
      obtain ⟨hok,el0,fz,hblk,hfz⟩:=hr.mem k el ps hk
      rw [hps] at hok hblk hfz
      obtain ⟨hoa,hor⟩:=xi.1 hok
      have hla:(zw ρ a).length=b:=by rw [xo ρ a hoa,hb]
      have hLm:L.length=m:=hor.1
      have hlen:(l.take (min l.length n)).length=min l.length n:=by simp
      have hw:zj5 (c8 L) (off o) (c8 (l.take (min l.length n))) (c8 (zx L (off o) (l.take (min l.length n)))):=zcu _ (fun _=>rfl) L _ _ (by rw [hlen];exact h1)
      have hcl:(c8 (l.take (min l.length n))).length=min l.length n:=by simp [c8]
      have hst:=zaa (P:=P) (b:=ρ k) (s:=b+off o) (el:=el0) (fz:=fz) (c8 (l.take (min l.length n))) 0 (zw ρ (a++SV.arr8 m L ::r')) w hblk hfz (by
        rw [ym];simp only [zw,SV.cells,List.length_append,hcl];have hcL:(c8 L).length=L.length:=by simp [c8]
        omega) hw.2.2
      have hsp:zx (zw ρ (a++SV.arr8 m L ::r')) (b+off o+0) (c8 (l.take (min l.length n)))=zw ρ (a++SV.arr8 m (zx L (off o) (l.take (min l.length n))) ::r'):=by
        rw [ym,ym,Nat.add_zero,←hla]
        simp only [zw,SV.cells]
        rw [zf2 _ _ _ _ _ hw.2.1,←hw.1]
      rw [hsp] at hst
      have hok':okL (· <hp.length) (a++SV.arr8 m (zx L (off o) (l.take (min l.length n))) ::r'):=
        xi.2 ⟨hoa,by simp only [SV.ok];rw [xd _ _ _ (by rw [hlen];exact h1)];exact hLm,hor.2⟩
      have hlenc:(zw ρ (a++SV.arr8 m (zx L (off o) (l.take (min l.length n))) ::r')).length=(zw ρ (a++SV.arr8 m L ::r')).length:=by
        rw [←hsp,xd _ _ _ (by
         rw [ym];simp only [zw,SV.cells,List.length_append,hcl];have:(c8 L).length=L.length:=by simp [c8]
         omega)]
      refine ⟨.int (min l.length n:Nat),ρ,_,_,?_,trivial,Step.write (el0:=el0) (fz:=fz) hr hk hok' (by rw [hlenc];exact hfz),h⟩
      unfold Builtin.copy_
      have hm:Nat.min l.length n=min l.length n:=rfl
      have hu':P.underlying t=some (.slice e):=hu
      simp only [List.getElem?_toArray,List.getElem?_cons_zero,show ∀x y:Value,(#[x,y]:Array Value)[0]?=some x from fun _ _=>rfl,show ∀x y:Value,(#[x,y]:Array Value)[1]?=some y from fun _ _=>rfl,SV.den]
      simp only [Sem.run_bind,run_underlying hu',Result.andThen_ok,hl1,hm,yp hE,hsz,hl2 (min l.length n) (Nat.min_le_left _ _),hst,Sem.run_pure,goInt]
     ·exact h.elim
    ·exact h.elim
   ·exact h.elim
  ·exact h.elim
theorem zq0 (v:Value) (n:Nat):Builtin.zeroCells #[v] n=(List.replicate n v).toArray:=by
  unfold Builtin.zeroCells
  apply Array.ext'
  simp
  apply List.ext_getElem?
  intro i
  rcases Nat.lt_or_ge i n with h|h
  ·simp [h,Nat.mod_one]
  ·simp [h]
theorem zgj {t u ty e:TypeId} {ei:TyI} {du:TypeDesc} (hu:P.underlying t=some (.slice e)) (hdu:P.underlying u=some du) (hd2:du= .string∨ ∃e',du= .slice e') (hE:yt P e ei) (h1:ei.sz=1)
    (hb:ei.bytes=1) (z:UInt8) (hz:ei.zero= .u8 z) {A:Option Addr} {n c:Nat} {x:Value} {old new:List UInt8} (hx: ∀w',(∀a,w'.cell? a=w.cell? a)→(Builtin.lenOf x).run P w'= .ok new.length w'∧(Builtin.firstCells 1 new.length x).run P w'= .ok (c8 new).toArray w')
    (hold: ∀w',(∀a,w'.cell? a=w.cell? a)→(Builtin.firstCells 1 n (.slice A n c)).run P w'= .ok (c8 old).toArray w') (hgr:c<n+new.length) (hsize:n+new.length≤140737488355328):
    ∃(m:Nat) (w':World),(Builtin.append_ #[t,u] ty #[.slice A n c,x]).run P w= .ok (.slice (some ⟨w.heap.size,0,none⟩) (n+new.length) (n+new.length+m)) w'∧
     w'.heap=w.heap.push (.cells (c8 (old++new++List.replicate m z)).toArray e)∧w'.os=w.os∧w'.output=w.output∧w'.tape=w.tape:=by
  obtain ⟨info,i1,i2,i3,i4⟩:=hE.1
  have hti: ∀w,(typeInfo e).run P w= .ok info w:=fun w=>by simp only [typeInfo,Sem.run_bind,run_program,Result.andThen_ok,i1,Sem.run_pure]
  have hzv: ∀w,(zeroValue e).run P w= .ok (.int .u8 (z.toNat:Int)) w:=fun w=>by rw [zbh (ρ:=fun k=>k) hE,hz];rfl
  have hcap: ¬(n+new.length≤c):=by omega
  have hmax: ¬(((n+new.length:Nat):Int)>IntKind.i64.max∧(False∨info.bytes=0)):=by rw [i3,hb];simp
  have hgrow: ¬(Builtin.nextslicecap (n+new.length) c*info.bytes>2^48):=by
    have:=growslice_fits (need:=n+new.length) (old:=c) (bytes:=1) hgr (by omega)
    rw [i3,hb];omega
  have hnf:(Question.appendCap (n+new.length) c e).forced=false:=rfl
  have hxl:=fun w' hw'=>(hx w' hw').1
  have hxc:=fun w' hw'=>(hx w' hw').2
  have hxl0:=hxl w (fun _=>rfl)
  refine ⟨w.tape w.drawn (Question.appendCap (n+new.length) c e)%(2^63-(n+new.length)),?_⟩
  generalize hm:w.tape w.drawn (Question.appendCap (n+new.length) c e)%(2^63-(n+new.length))=m
  refine ⟨({w with drawn:=w.drawn+1}:World).alloc (.cells (c8 (old++new++List.replicate m z)).toArray e),?_,rfl,rfl,rfl,rfl⟩
  have hold':=hold {w with drawn:=w.drawn+1} (fun _=>rfl)
  have hxc':=hxc {w with drawn:=w.drawn+1} (fun _=>rfl)
  have hsub:n+new.length+m-(n+new.length)=m:=by omega
  have hfin:(c8 old).toArray++(c8 new).toArray++(List.replicate m (Value.int .u8 (z.toNat:Int))).toArray=(c8 (old++new++List.replicate m z)).toArray:=by
    apply Array.ext';simp [c8]
  unfold Builtin.append_
  simp only [show ∀x y:Value,(#[x,y]:Array Value)[0]?=some x from fun _ _=>rfl,show ∀x y:Value,(#[x,y]:Array Value)[1]?=some y from fun _ _=>rfl,
    show ∀x y:TypeId,(#[x,y]:Array TypeId)[0]?=some x from fun _ _=>rfl,show ∀x y:TypeId,(#[x,y]:Array TypeId)[1]?=some y from fun _ _=>rfl]
  rcases hd2 with rfl|⟨e',rfl⟩
  all_goals
    simp only [Sem.run_bind,run_underlying hu,run_underlying hdu,Result.andThen_ok,yp hE,h1,Sem.run_pure,Bool.false_eq_true,if_false,hxl0,hcap,hti]
    rw [if_neg hmax]
    simp only [Sem.run_bind,hti,Result.andThen_ok,if_neg hgrow,run_choose,hnf,Bool.false_eq_true,if_false,Question.cut,hm,run_askRoom,hold',Bool.not_false,if_true,hxc',hzv,Sem.run_pure,newRow,run_newObj,Value.cells,hsub,zq0,hfin]
    rfl
theorem zf7 {t u ty e:TypeId} {ei:TyI} {du:TypeDesc} (hu:P.underlying t=some (.slice e)) (hdu:P.underlying u=some du) (hd2:du= .string∨ ∃e',du= .slice e') (hE:yt P e ei) (h1:ei.sz=1)
    {A:Option Addr} {n c:Nat} {x:Value} {new:List UInt8} (hxl:(Builtin.lenOf x).run P w= .ok new.length w) (hxc:(Builtin.firstCells 1 new.length x).run P w= .ok (c8 new).toArray w) (hroom:n+new.length≤c) {w':World}
    (hst: ∀a,A=some a→(storeCells (a.add (n*1)) (c8 new)).run P w= .ok () w') (hnone:A=none→w'=w):
    (Builtin.append_ #[t,u] ty #[.slice A n c,x]).run P w= .ok (.slice A (n+new.length) c) w':=by
  unfold Builtin.append_
  simp only [show ∀x y:Value,(#[x,y]:Array Value)[0]?=some x from fun _ _=>rfl,show ∀x y:Value,(#[x,y]:Array Value)[1]?=some y from fun _ _=>rfl,
    show ∀x y:TypeId,(#[x,y]:Array TypeId)[0]?=some x from fun _ _=>rfl,show ∀x y:TypeId,(#[x,y]:Array TypeId)[1]?=some y from fun _ _=>rfl]
  rcases hd2 with rfl|⟨e',rfl⟩
  all_goals
    simp only [Sem.run_bind,run_underlying hu,run_underlying hdu,Result.andThen_ok,yp hE,h1,Sem.run_pure,Bool.false_eq_true,if_false,hxl,hroom,if_true,Bool.not_false,hxc]
    cases A with
    |none=>rw [hnone rfl];rfl
    |some a=>simp only [Sem.run_bind,hst a rfl,Result.andThen_ok,Sem.run_pure]
theorem zpy (L:List Value) (n:Nat):Builtin.zeroCells L.toArray n=((List.replicate n L).flatten).toArray:=by
  unfold Builtin.zeroCells
  apply Array.ext'
  simp only [Array.toList_map,Array.toList_range,List.size_toArray]
  induction n with
  |zero=>simp
  |succ n ih=>
   rw [Nat.succ_mul,List.range_add,List.map_append,ih,List.replicate_succ',List.flatten_append]
   congr 1
   simp only [List.flatten_cons,List.flatten_nil,List.append_nil,List.map_map]
   apply List.ext_getElem?
   intro j
   rw [List.getElem?_map]
   by_cases hj:j<L.length
   ·rw [List.getElem?_range hj,List.getElem?_eq_getElem hj]
    simp only [Option.map_some,Function.comp]
    have e:(n*L.length+j)%L.length=j:=by rw [Nat.add_comm,Nat.add_mul_mod_self_right,Nat.mod_eq_of_lt hj]
    simp [e,hj]
   ·rw [List.getElem?_eq_none (by simp;omega),List.getElem?_eq_none (by omega)];rfl
theorem zik {t u ty e e':TypeId} {ei:TyI} (hu:P.underlying t=some (.slice e)) (hdu:P.underlying u=some (.slice e')) (hE:yt P e ei) (hb:1≤ei.bytes)
    {A:Option Addr} {n c nx:Nat} {x:Value} {old new:List Value} (hx: ∀w',(∀a,w'.cell? a=w.cell? a)→(Builtin.lenOf x).run P w'= .ok nx w'∧(Builtin.firstCells ei.sz nx x).run P w'= .ok new.toArray w')
    (hold: ∀w',(∀a,w'.cell? a=w.cell? a)→(Builtin.firstCells ei.sz n (.slice A n c)).run P w'= .ok old.toArray w') (hgr:c<n+nx) (hsize:(n+nx)*ei.bytes≤140737488355328):
    ∃(m:Nat) (w':World),(Builtin.append_ #[t,u] ty #[.slice A n c,x]).run P w= .ok (.slice (some ⟨w.heap.size,0,none⟩) (n+nx) (n+nx+m)) w'∧
     w'.heap=w.heap.push (.cells (old++new++(List.replicate m (ei.zero.cells fun k=>k)).flatten).toArray e)∧w'.os=w.os∧w'.output=w.output∧w'.tape=w.tape:=by
  obtain ⟨info,i1,i2,i3,i4⟩:=hE.1
  have hti: ∀w,(typeInfo e).run P w= .ok info w:=fun w=>by simp only [typeInfo,Sem.run_bind,run_program,Result.andThen_ok,i1,Sem.run_pure]
  have hzv: ∀w,(zeroValue e).run P w= .ok (ei.zero.den fun k=>k) w:=fun w=>zbh (ρ:=fun k=>k) hE w
  have hcap: ¬(n+nx≤c):=by omega
  have hmax: ¬(((n+nx:Nat):Int)>IntKind.i64.max∧(False∨info.bytes=0)):=by
    rw [i3];intro h;rcases h.2 with h|h
    ·exact h
    ·omega
  have hgrow: ¬(Builtin.nextslicecap (n+nx) c*info.bytes>2^48):=by
    have:=growslice_fits (need:=n+nx) (old:=c) (bytes:=ei.bytes) hgr hsize
    rw [i3];omega
  have hnf:(Question.appendCap (n+nx) c e).forced=false:=rfl
  have hxl:=fun w' hw'=>(hx w' hw').1
  have hxc:=fun w' hw'=>(hx w' hw').2
  have hxl0:=hxl w (fun _=>rfl)
  refine ⟨w.tape w.drawn (Question.appendCap (n+nx) c e)%(2^63-(n+nx)),?_⟩
  generalize hm:w.tape w.drawn (Question.appendCap (n+nx) c e)%(2^63-(n+nx))=m
  refine ⟨({w with drawn:=w.drawn+1}:World).alloc (.cells (old++new++(List.replicate m (ei.zero.cells fun k=>k)).flatten).toArray e),?_,rfl,rfl,rfl,rfl⟩
  have hold':=hold {w with drawn:=w.drawn+1} (fun _=>rfl)
  have hxc':=hxc {w with drawn:=w.drawn+1} (fun _=>rfl)
  have hsub:n+nx+m-(n+nx)=m:=by omega
  have hzc:(ei.zero.den fun k=>k).cells=(ei.zero.cells fun k=>k).toArray:=zdy _ _
  have hfin:old.toArray++new.toArray++((List.replicate m (ei.zero.cells fun k=>k)).flatten).toArray=(old++new++(List.replicate m (ei.zero.cells fun k=>k)).flatten).toArray:=by
    apply Array.ext';simp
  unfold Builtin.append_
  simp only [show ∀x y:Value,(#[x,y]:Array Value)[0]?=some x from fun _ _=>rfl,show ∀x y:Value,(#[x,y]:Array Value)[1]?=some y from fun _ _=>rfl,
    show ∀x y:TypeId,(#[x,y]:Array TypeId)[0]?=some x from fun _ _=>rfl,show ∀x y:TypeId,(#[x,y]:Array TypeId)[1]?=some y from fun _ _=>rfl]
  simp only [Sem.run_bind,run_underlying hu,run_underlying hdu,Result.andThen_ok,yp hE,Sem.run_pure,Bool.false_eq_true,if_false,hxl0,hcap,hti]
  rw [if_neg hmax]
  simp only [Sem.run_bind,hti,Result.andThen_ok,if_neg hgrow,run_choose,hnf,Bool.false_eq_true,if_false,Question.cut,hm,run_askRoom,hold',Bool.not_false,if_true,hxc',hzv,Sem.run_pure,newRow,run_newObj,hzc,hsub,zpy,hfin]
  rfl
theorem zq3 {t u ty e e':TypeId} {ei:TyI} (hu:P.underlying t=some (.slice e)) (hdu:P.underlying u=some (.slice e')) (hE:yt P e ei)
    {A:Addr} {n c nx:Nat} {x:Value} {new:List Value} (hxl:(Builtin.lenOf x).run P w= .ok nx w) (hxc:(Builtin.firstCells ei.sz nx x).run P w= .ok new.toArray w) (hroom:n+nx≤c) {w':World}
    (hst:(storeCells (A.add (n*ei.sz)) new).run P w= .ok () w'):
    (Builtin.append_ #[t,u] ty #[.slice (some A) n c,x]).run P w= .ok (.slice (some A) (n+nx) c) w':=by
  unfold Builtin.append_
  simp only [show ∀x y:Value,(#[x,y]:Array Value)[0]?=some x from fun _ _=>rfl,show ∀x y:Value,(#[x,y]:Array Value)[1]?=some y from fun _ _=>rfl,
    show ∀x y:TypeId,(#[x,y]:Array TypeId)[0]?=some x from fun _ _=>rfl,show ∀x y:TypeId,(#[x,y]:Array TypeId)[1]?=some y from fun _ _=>rfl]
  simp only [Sem.run_bind,run_underlying hu,run_underlying hdu,Result.andThen_ok,yp hE,Sem.run_pure,Bool.false_eq_true,if_false,hxl,hroom,if_true,Bool.not_false,hxc,hst]
theorem z24 (hΓ:CtxOK P Γ) (hr:HpRel ρ hp w) {t u ty e e':TypeId} {ei:TyI} (hu:P.underlying t=some (.slice e)) (hdu:P.underlying u=some (.slice e')) (hE:yt P e ei) {s x:SV} {K:SV→List Blk→Prop} (h:zmy e ei s x hp K):
    Mem P ρ hp w K (Builtin.append_ #[t,u] ty #[s.den ρ,x.den ρ]):=by
  unfold zmy at h
  split at h
  ·rename_i kx jx bx ox nx cx
   unfold z6g at h
   have hh:=zch h;clear h;obtain ⟨elx,psx,hkx,h⟩:=hh
   have hh:=ze9 h;clear h;obtain ⟨ax,rx,hex,hbx,h⟩:=hh
   split at h
   ·rename_i px rx'
    have hcellx:=fun i=>hr.cell hkx i
    obtain ⟨hokx,_⟩:=hr.mem kx elx psx hkx
    rw [hex] at hokx hcellx
    obtain ⟨hoax,hopx⟩:=xi.1 hokx
    have hlax:(zw ρ ax).length=bx:=by rw [xo ρ ax hoax,hbx]
    have hh:=zsc (p:=(· <hp.length)) (ρ:=ρ) h hopx.1;clear h;obtain ⟨new,h,hnok,hfit,hnc,hone⟩:=hh
    have hlen:(((px.cells ρ).drop (off ox)).take (nx*ei.sz)).length=nx*ei.sz:=by rw [List.length_take,List.length_drop];omega
    have hx: ∀w',(∀a,w'.cell? a=w.cell? a)→(Builtin.lenOf ((SV.sl kx jx bx ox nx cx).den ρ)).run P w'= .ok nx w'∧(Builtin.firstCells ei.sz nx ((SV.sl kx jx bx ox nx cx).den ρ)).run P w'= .ok (((px.cells ρ).drop (off ox)).take (nx*ei.sz)).toArray w':=by
      intro w' hw'
      refine ⟨rfl,?_⟩
      simp only [Builtin.firstCells,SV.den]
      have:=zak (P:=P) (w:=w') (b:=ρ kx) (s:=bx+off ox) (L:=zw ρ (ax++px ::rx')) (M:=((px.cells ρ).drop (off ox)).take (nx*ei.sz))
        (fun i=>by rw [hw',hcellx]) (fun i hi=>by
          rw [hlen] at hi
          have hx:off ox+i<(px.cells ρ).length:=by omega
          rw [Nat.add_assoc,List.getElem?_take_of_lt hi,List.getElem?_drop,List.getElem?_eq_getElem hx]
          exact zmv hlax (by rw [List.getElem?_eq_getElem hx]))
      rw [hlen] at this
      exact this
    generalize hNew:((px.cells ρ).drop (off ox)).take (nx*ei.sz)=New at*
    split at h
    ·obtain ⟨⟨h1,hb,hs⟩,h⟩:=zq h
     obtain ⟨m,w',g1,g2,g3,g4,g5⟩:=zik (P:=P) (w:=w) (ty:=ty) (A:=none) (n:=0) (c:=0) (old:= []) hu hdu hE hb hx (fun w' _=>by simp [Builtin.firstCells]) (by omega) (by rw [Nat.zero_add];exact hs)
     obtain ⟨tl,h,tok,tc⟩:=z1y (p:=(· <hp.length)) (ρ:=fun k=>k) h hE.2.1.1 hE.2.1.2.2 m
     obtain ⟨r,h,rok,rcl⟩:=zoc h hnok tok
     have h:=zpi h
     have hc:zw ρ [r]=New++(List.replicate m (ei.zero.cells fun k=>k)).flatten:=by
       show r.cells ρ++ []=_
       rw [List.append_nil,rcl,hnc,tc]
     refine ⟨_,zg9 ρ hp.length w.heap.size,_,w',?_,zly _ _ _,Step.alloc (el0:=e) (fz:=(0,0)) (ps:= [r]) hr ⟨rok,trivial⟩ (by rw [hc];simpa using g2) (.inl (Nat.le_refl _)) g3 g4 g5,h⟩
     rw [zi2]
     rw [Nat.zero_add] at g1
     exact g1
    ·rename_i k n c
     have hh:=zch h;clear h;obtain ⟨el,ps,hk,h⟩:=hh
     split at h
     ·rename_i q
      obtain ⟨⟨p1,p2,hb,p3⟩,h⟩:=zq h
      obtain ⟨hok,el0,fz,hblk,hfz⟩:=hr.mem k el _ hk
      have hqok:=hok.1
      have hcells:zw ρ [q]=q.cells ρ:=by show q.cells ρ++ []=_;simp
      rw [hcells] at hblk hfz
      have hql:(q.cells ρ).length=c*ei.sz:=by rw [SV.cells_length ρ q hqok,p2]
      obtain ⟨old,h,ook,ofit,oc,_⟩:=zsc (p:=(· <hp.length)) (ρ:=ρ) h hqok
      have oc: ∀ρ',old.cells ρ'=(q.cells ρ).take (n*ei.sz):=fun ρ'=>by rw [oc];rfl
      have hA:(⟨ρ k,0+off [],none⟩:Addr)=⟨ρ k,0,none⟩:=rfl
      have hNl:New.length=nx*ei.sz:=hlen
      by_cases hroom:n+nx≤c
      ·obtain ⟨tl,h,tok,tc⟩:=yca (p:=(· <hp.length)) (ρ:=ρ) h hqok p2 hroom
       obtain ⟨r1,h,r1ok,r1c⟩:=zoc h ook hnok
       obtain ⟨r,h,rok,rcl⟩:=zoc h r1ok tok
       obtain ⟨hkl,hh⟩:=zes h
       have h:=zev (zc7 hh)
       have hmul:(n+nx)*ei.sz=n*ei.sz+nx*ei.sz:=Nat.add_mul _ _ _
       have hrc: ∀ρ',r.cells ρ'=zx (q.cells ρ) (n*ei.sz) New:=fun ρ'=>by
         rw [rcl,r1c,oc,hnc,tc,hmul];unfold zx;rw [hNl]
       have hle:n*ei.sz+nx*ei.sz≤c*ei.sz:=by rw [←hmul];exact Nat.mul_le_mul_right _ hroom
       have hst:=zaa (P:=P) (b:=ρ k) (s:=n*ei.sz) (el:=el0) (fz:=fz) New 0 (q.cells ρ) w hblk hfz (by rw [hNl,hql];omega) (by
         intro v hv
         exact hone v (by rw [hnc];exact hv))
       have hsp:zx (q.cells ρ) (n*ei.sz+0) New=r.cells ρ:=by rw [Nat.add_zero,hrc]
       rw [hsp] at hst
       have hcn:zw ρ [r]=r.cells ρ:=by show r.cells ρ++ []=_;simp
       have hls:(r.cells ρ).length=(q.cells ρ).length:=by rw [hrc];exact xd _ _ _ (by rw [hNl,hql];omega)
       have st1:=Step.write (el0:=el0) (fz:=fz) hr hk (ps':= [r]) ⟨rok,trivial⟩ (by rw [hcn,hls];exact hfz)
       have st2:=Step.move (el':=e) st1.rel (k:=k) (List.getElem?_set_self hkl)
       have st:=st1.trans st2
       have hset:(hp.set k (Blk.mk el [r])).set k Blk.dead=hp.set k Blk.dead:=by simp
       rw [hset,List.length_set] at st
       have hcc:n+nx+(c-(n+nx))=c:=by omega
       rw [hcc] at h
       refine ⟨_,_,_,_,?_,by simp [SV.ok],st,h⟩
       have hd:(SV.sl hp.length 0 0 [] (n+nx) c).den (zg9 ρ hp.length (ρ k))= .slice (some ⟨ρ k,0,none⟩) (n+nx) c:=by simp [SV.den,x7,off]
       rw [hd]
       have:=zq3 (P:=P) (w:=w) (ty:=ty) (A:=⟨ρ k,0,none⟩) (n:=n) (c:=c) hu hdu hE (hx w (fun _=>rfl)).1 (hx w (fun _=>rfl)).2 hroom (w':=World.putAt w (ρ k) (.cells (r.cells ρ).toArray el0 fz)) (by rw [zdc,Nat.zero_add];exact hst)
       rw [show (SV.sl k 0 0 [] n c).den ρ= .slice (some ⟨ρ k,0,none⟩) n c from rfl,this,hcn]
      ·have hold: ∀w',(∀a,w'.cell? a=w.cell? a)→(Builtin.firstCells ei.sz n (.slice (some ⟨ρ k,0,none⟩) n c)).run P w'= .ok ((q.cells ρ).take (n*ei.sz)).toArray w':=by
         intro w' hw'
         simp only [Builtin.firstCells]
         have hol:((q.cells ρ).take (n*ei.sz)).length=n*ei.sz:=by
           rw [List.length_take,hql];exact Nat.min_eq_left (Nat.mul_le_mul_right _ p1)
         have:=zak (P:=P) (w:=w') (b:=ρ k) (s:=0) (L:=q.cells ρ) (M:=(q.cells ρ).take (n*ei.sz)) (fun i=>by rw [hw',hr.cell hk i,hcells]) (fun i hi=>by
           rw [hol] at hi
           rw [Nat.zero_add,List.getElem?_take_of_lt hi])
         rw [hol] at this;exact this
       obtain ⟨m',w',g1,g2,g3,g4,g5⟩:=zik (P:=P) (w:=w) (ty:=ty) (A:=some ⟨ρ k,0,none⟩) (n:=n) (c:=c) (old:=(q.cells ρ).take (n*ei.sz)) hu hdu hE hb hx hold (by omega) p3
       obtain ⟨tl,h,tok,tc⟩:=z1y (p:=(· <hp.length)) (ρ:=fun k=>k) h hE.2.1.1 hE.2.1.2.2 m'
       obtain ⟨r1,h,r1ok,r1c⟩:=zoc h ook hnok
       obtain ⟨r,h,rok,rcl⟩:=zoc h r1ok tok
       obtain ⟨hkl,hh⟩:=zes h
       have h:=zev (zc7 hh)
       have st1:=Step.kill hr k
       have hc: ∀ρ',zw ρ' [r]=(q.cells ρ).take (n*ei.sz)++New++(List.replicate m' (ei.zero.cells fun k=>k)).flatten:=fun ρ'=>by
         show r.cells ρ'++ []=_
         rw [List.append_nil,rcl,r1c,oc,hnc,tc]
       have st2:=Step.alloc (el:=e) (el0:=e) (fz:=(0,0)) (w':=w') (ps:= [r]) st1.rel (by rw [List.length_set];exact ⟨rok,trivial⟩) (by rw [hc];exact g2) (.inl (Nat.le_refl _)) g3 g4 g5
       have st:=st1.trans st2
       rw [List.length_set] at st
       refine ⟨_,_,_,_,?_,by simp [SV.ok],st,h⟩
       have hd:(SV.sl hp.length 0 0 [] (n+nx) (n+nx+m')).den (zg9 ρ hp.length w.heap.size)= .slice (some ⟨w.heap.size,0,none⟩) (n+nx) (n+nx+m'):=by simp [SV.den,x7,off]
       rw [hd,show (SV.sl k 0 0 [] n c).den ρ= .slice (some ⟨ρ k,0,none⟩) n c from rfl]
       exact g1
     ·exact h.elim
    ·exact h.elim
   ·exact h.elim
  ·exact h.elim
theorem z3a (hΓ:CtxOK P Γ) (hr:HpRel ρ hp w) {t u ty:TypeId} {s x:SV} {K:SV→List Blk→Prop} (h:zsl Γ t u s x hp K):
    Mem P ρ hp w K (Builtin.append_ #[t,u] ty #[s.den ρ,x.den ρ]):=by
  unfold zsl at h
  have hh:=yd h;clear h;obtain ⟨ti,ht,h⟩:=hh
  have hu:=(hΓ.ty t ti ht).2.2.1
  have hh:=yd h;clear h;obtain ⟨ui,hui,h⟩:=hh
  have hU:=(hΓ.ty u ui hui).2.2.1
  split at h
  ·rename_i e hdd
   rw [hdd] at hu
   have hdu:(∃du,P.underlying u=some du∧(du= .string∨ ∃e',du= .slice e')∧zjd Γ e s x hp K)∨(∃e' ei,P.underlying u=some (.slice e')∧yt P e ei∧zmy e ei s x hp K):=by
     split at h
     ·rename_i hd;rw [hd] at hU;exact .inl ⟨_,hU,.inl rfl,h⟩
     ·rename_i hd;rw [hd] at hU
      have hh:=yd h;clear h;obtain ⟨ei,hei,h⟩:=hh
      split at h
      ·exact .inl ⟨_,hU,.inr ⟨_,rfl⟩,h⟩
      ·exact .inr ⟨_,ei,hU,hΓ.ty e ei hei,h⟩
     ·exact h.elim
   clear h
   rcases hdu with ⟨du,hdu,hd2,h⟩|⟨e',ei,hdu,hE,h⟩
   rotate_left
   ·exact z24 hΓ hr hu hdu hE h
   unfold zjd at h
   have hh:=yd h;clear h;obtain ⟨ei,hei,h⟩:=hh
   have hE:=hΓ.ty e ei hei
   split at h
   ·rename_i z hz
    split at h
    ·rename_i hb
     have hb:=Nat.eq_of_beq_eq_true hb
     have hsz:ei.sz=1:=by have:=hE.2.1.2.2;rw [hz] at this;exact this.symm
     have hh:=zkw (P:=P) hr h;clear h;obtain ⟨new,h,_,hl⟩:=hh
     have hx: ∀w',(∀a,w'.cell? a=w.cell? a)→(Builtin.lenOf (x.den ρ)).run P w'= .ok new.length w'∧(Builtin.firstCells 1 new.length (x.den ρ)).run P w'= .ok (c8 new).toArray w':=
       fun w' hw'=>⟨(hl w' hw').1,by have:=(hl w' hw').2.1 new.length (Nat.le_refl _);rwa [List.take_length] at this⟩
     split at h
     ·by_cases h0:new.length=0
      ·have hk:=(z8 h).1 (by simp [h0])
       refine Mem.same (v:= .nilsl) hr trivial hk ?_
       have:=zf7 (P:=P) (w:=w) (ty:=ty) (A:=none) (n:=0) (c:=0) hu hdu hd2 hE hsz (hx w (fun _=>rfl)).1 (hx w (fun _=>rfl)).2 (by omega) (w':=w) (fun a ha=>by cases ha) (fun _=>rfl)
       simp only [SV.den]
       rw [this,h0]
      ·obtain ⟨hs,h⟩:=zq ((z8 h).2 (by simp [h0]))
       obtain ⟨m,w',g1,g2,g3,g4,g5⟩:=zgj (P:=P) (w:=w) (ty:=ty) (A:=none) (n:=0) (c:=0) (old:= []) hu hdu hd2 hE hsz hb z hz hx (fun w' _=>rfl) (by omega) (by omega)
       have h:=zpi (x0 h (List.replicate m z))
       have hc:zw ρ [SV.arr8 (new.length+(List.replicate m z).length) (new++List.replicate m z)]=c8 (new++List.replicate m z):=by simp [zw,SV.cells]
       refine ⟨_,zg9 ρ hp.length w.heap.size,_,w',?_,zly _ _ _,Step.alloc (el0:=e) (fz:=(0,0)) (ps:= [SV.arr8 (new.length+(List.replicate m z).length) (new++List.replicate m z)]) hr ⟨by simp [SV.ok],trivial⟩ (by rw [hc];simpa using g2) (.inl (Nat.le_refl _)) g3 g4 g5,h⟩
       rw [zi2]
       simp only [SV.den]
       rw [g1];simp
     ·rename_i k n c
      have hh:=zch h;clear h;obtain ⟨el,ps,hk,h⟩:=hh
      split at h
      ·rename_i m l
       have hh:=zq h;clear h;obtain ⟨⟨p1,p2,p3⟩,h⟩:=hh
       obtain ⟨hok,el0,fz,hblk,hfz⟩:=hr.mem k el _ hk
       have hlm:l.length=m:=hok.1
       have hcells:zw ρ [SV.arr8 m l]=c8 l:=by simp [zw,SV.cells]
       rw [hcells] at hblk hfz
       have hA:(⟨ρ k,0+off [],none⟩:Addr)=⟨ρ k,0,none⟩:=rfl
       by_cases hroom:n+new.length≤c
       ·have hh:=x0 h (l.drop (n+new.length));clear h
        obtain ⟨hkl,hh⟩:=zes hh
        have h:=zev (zc7 hh)
        have e1:l.take n++new++l.drop (n+new.length)=zx l n new:=rfl
        have e2:n+new.length+(l.drop (n+new.length)).length=l.length:=by simp;omega
        rw [e1,e2] at h
        have hst:=zaa (P:=P) (b:=ρ k) (s:=n) (el:=el0) (fz:=fz) (c8 new) 0 (c8 l) w hblk hfz (by simp [c8];omega) (One.map _ (fun _=>rfl) new)
        have hsp:zx (c8 l) (n+0) (c8 new)=c8 (zx l n new):=by rw [Nat.add_zero];exact (zit _ l n new).symm
        rw [hsp] at hst
        have hcn:zw ρ [SV.arr8 l.length (zx l n new)]=c8 (zx l n new):=by simp [zw,SV.cells]
        have hls:(zx l n new).length=l.length:=xd l n new (by omega)
        have st1:=Step.write (el0:=el0) (fz:=fz) hr hk (ps':= [SV.arr8 l.length (zx l n new)]) ⟨hls,trivial⟩ (by rw [hcn];simp [c8,hls] at hfz ⊢;exact hfz)
        have st2:=Step.move (el':=e) st1.rel (k:=k) (List.getElem?_set_self hkl)
        have st:=st1.trans st2
        have hset:(hp.set k (Blk.mk el [SV.arr8 l.length (zx l n new)])).set k Blk.dead=hp.set k Blk.dead:=by simp
        rw [hset,List.length_set] at st
        refine ⟨_,_,_,_,?_,by simp [SV.ok],st,h⟩
        have hd:(SV.sl hp.length 0 0 [] (n+new.length) l.length).den (zg9 ρ hp.length (ρ k))= .slice (some ⟨ρ k,0,none⟩) (n+new.length) l.length:=by simp [SV.den,x7,off]
        rw [hd]
        have:=zf7 (P:=P) (w:=w) (ty:=ty) (A:=some ⟨ρ k,0,none⟩) (n:=n) (c:=c) hu hdu hd2 hE hsz (hx w (fun _=>rfl)).1 (hx w (fun _=>rfl)).2 hroom (w':=World.putAt w (ρ k) (.cells (c8 (zx l n new)).toArray el0 fz)) (fun a ha=>by
          cases ha
          rw [zdc,Nat.zero_add,Nat.mul_one];exact hst) (fun hc=>by cases hc)
        simp only [SV.den,hA]
        rw [this,p2,hcn]
       ·have hold: ∀w',(∀a,w'.cell? a=w.cell? a)→(Builtin.firstCells 1 n (.slice (some ⟨ρ k,0,none⟩) n c)).run P w'= .ok (c8 (l.take n)).toArray w':=by
          intro w' hw'
          simp only [Builtin.firstCells,Nat.mul_one]
          have hlen:(c8 (l.take n)).length=n:=by simp [c8];omega
          have:=zak (P:=P) (w:=w') (b:=ρ k) (s:=0) (L:=c8 l) (M:=c8 (l.take n)) (fun i=>by rw [hw',hr.cell hk i,hcells]) (fun i hi=>by
            rw [hlen] at hi
            simp [c8,List.getElem?_take,hi])
          rw [hlen] at this;exact this
        obtain ⟨m',w',g1,g2,g3,g4,g5⟩:=zgj (P:=P) (w:=w) (ty:=ty) (A:=some ⟨ρ k,0,none⟩) (n:=n) (c:=c) (old:=l.take n) hu hdu hd2 hE hsz hb z hz hx hold (by omega) (by omega)
        have hh:=x0 h (List.replicate m' z);clear h
        obtain ⟨hkl,hh⟩:=zes hh
        have h:=zev (zc7 hh)
        have st1:=Step.kill hr k
        have hc:zw ρ [SV.arr8 (n+new.length+(List.replicate m' z).length) (l.take n++new++List.replicate m' z)]=c8 (l.take n++new++List.replicate m' z):=by simp [zw,SV.cells]
        have hln:(l.take n).length=n:=by simp;omega
        have st2:=Step.alloc (el:=e) (el0:=e) (fz:=(0,0)) (w':=w') (ps:= [SV.arr8 (n+new.length+(List.replicate m' z).length) (l.take n++new++List.replicate m' z)]) st1.rel ⟨by simp [SV.ok];omega,trivial⟩ (by rw [hc];exact g2) (.inl (Nat.le_refl _)) g3 g4 g5
        have st:=st1.trans st2
        rw [List.length_set] at st
        refine ⟨_,_,_,_,?_,by simp [SV.ok],st,h⟩
        have hd:(SV.sl hp.length 0 0 [] (n+new.length) (n+new.length+(List.replicate m' z).length)).den (zg9 ρ hp.length w.heap.size)= .slice (some ⟨w.heap.size,0,none⟩) (n+new.length) (n+new.length+m'):=by simp [SV.den,x7,off]
        rw [hd]
        simp only [SV.den,hA]
        exact g1
      ·exact h.elim
     ·exact h.elim
    ·exact h.elim
   ·exact h.elim
  ·exact h.elim
end
end Go.Sym
