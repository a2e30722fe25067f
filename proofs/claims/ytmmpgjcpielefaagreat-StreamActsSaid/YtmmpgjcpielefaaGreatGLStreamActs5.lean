/-
  The symbolic engine, part 9: tests of equality, indexes, slicing, bytes. No program in sight; no condition beyond each lemma's own.
-/
import Derived.Test.YtmmpgjcpielefaaGreatGLStreamActs4
import Derived.Laws.Append
import Derived.Laws.BytesString
set_option linter.unusedSimpArgs false
set_option linter.unusedVariables false
namespace Go.Sym
section
variable {P:Program} {Γ:Ctx} {p:Nat→Prop} {ρ:Nat→Nat}
theorem zc1 (op:BinOp) (t:TypeId) (X Y:Operand) (a b:Value) (w:World) (h1:a≠ .nilIface) (h2: ∀cs,a= .agg cs→P.eqGuardType P.depth t=false):
    (eqGuard op t X Y a b).run P w= .ok () w:=by
  by_cases hab: ∃xs ys,a= .agg xs∧b= .agg ys
  ·obtain ⟨xs,ys,rfl,rfl⟩:=hab
   exact run_eqGuard_agg w op t X Y xs ys (h2 _ rfl)
  ·unfold eqGuard
   cases op<;>first|rfl|skip
   ·simp only [Bool.not_true,Bool.false_eq_true,if_false]
    split
    ·exact absurd rfl h1
    ·exact absurd ⟨_,_,rfl,rfl⟩ hab
    ·rfl
   ·simp only [Bool.not_true,Bool.false_eq_true,if_false]
    split
    ·exact absurd rfl h1
    ·exact absurd ⟨_,_,rfl,rfl⟩ hab
    ·rfl
theorem yaz (hΓ:CtxOK P Γ) {op:BinOp} {t:TypeId} {x y:SV} {k:SV→Prop} (hx:x.ok p) (hy:y.ok p) (h:z0b Γ op t x y k):
    ∃v:SV,k v∧(∀p,v.ok p)∧ ∀(X Y:Operand) w,(do eqGuard op t X Y (x.den ρ) (y.den ρ);binOp op t (x.den ρ) (y.den ρ):Sem Value).run P w= .ok (v.den ρ) w:=by
  have num:z20 op x y k→x.den ρ≠ .nilIface→(∀cs,x.den ρ≠ .agg cs)→ ∃v:SV,k v∧(∀p,v.ok p)∧ ∀(X Y:Operand) w,(do eqGuard op t X Y (x.den ρ) (y.den ρ);binOp op t (x.den ρ) (y.den ρ):Sem Value).run P w= .ok (v.den ρ) w:=by
    intro h h1 h2
    obtain ⟨v,hk,hok,hr⟩:=yge (P:=P) (ρ:=ρ) t h
    exact ⟨v,hk,hok,fun X Y w=>by simp only [Sem.run_bind,zc1 op t X Y _ _ w h1 (fun cs hc=>absurd hc (h2 cs)),Result.andThen_ok,hr]⟩
  unfold z0b at h
  split at h
  ·exact num h (by simp [SV.den]) (by simp [SV.den])
  ·exact num h (by simp [SV.den]) (by simp [SV.den])
  ·exact num h (by simp [SV.den]) (by simp [SV.den])
  ·exact num h (by simp [SV.den]) (by simp [SV.den])
  ·exact num h (by simp [SV.den]) (by simp [SV.den])
  ·exact num h (by simp [SV.den]) (by simp [SV.den])
  ·rename_i n1 n2 n3 n4 n5 n6
   dsimp only at h
   have go: ∀kk:Bool→Prop,(match (generalizing:=false) x.many with
     |true=>yn Γ.ty t fun ti=>match ti.eqOk with|true=>eqK Γ 60 t x y kk|false=>False
     |false=>eqK Γ 60 t x y kk)→ ∃r,kk r∧(∀w,(Op.equalIn 10000 t (x.den ρ) (y.den ρ)).run P w= .ok r w)∧ ∀op X Y w,(eqGuard op t X Y (x.den ρ) (y.den ρ)).run P w= .ok () w:=by
     intro kk h
     split at h
     ·obtain ⟨ti,ht,h⟩:=yd h
      split at h
      ·rename_i he
       obtain ⟨r,h1,h2⟩:=z66 (ρ:=ρ) (p:=p) hΓ 60 10000 t x y kk (by omega) hx hy h
       exact ⟨r,h1,h2,fun op X Y w=>zc1 op t X Y _ _ w (by cases x<;>simp [SV.den,SV.many] at*) (fun _ _=>((hΓ.ty t ti ht).2.2.2 he).2)⟩
      ·exact h.elim
     ·rename_i hm
      have hnil:x≠ .nilif:=by
        rintro rfl
        unfold eqK at h
        obtain ⟨ti,ht,h⟩:=yd h
        split at h<;>first|exact h.elim|skip
        rename_i e he
        obtain ⟨ei,_,h⟩:=yd h
        split at h<;>exact h.elim
        split at h
        ·simp [SV.many] at h
        ·exact h.elim
      obtain ⟨r,h1,h2⟩:=z66 (ρ:=ρ) (p:=p) hΓ 60 10000 t x y kk (by omega) hx hy h
      exact ⟨r,h1,h2,fun op X Y w=>zc1 op t X Y _ _ w (by cases x<;>simp [SV.den] at*) (fun cs hc=>by cases x<;>simp [SV.den,SV.many] at*)⟩
   have be: ∀Y:Value,binOp .eql t (x.den ρ) Y=(do pure (.bool (←Op.equal t (x.den ρ) Y)):Sem Value):=by
     intro Y
     cases x<;>first|(exact absurd rfl (n1 _))|(exact absurd rfl (n2 _))|(exact absurd rfl (n3 _))|(exact absurd rfl (n4 _))|(exact absurd rfl (n5 _))|(exact absurd rfl (n6 _))|(cases Y<;>rfl)
   have bn: ∀Y:Value,binOp .neq t (x.den ρ) Y=(do pure (.bool (!(←Op.equal t (x.den ρ) Y))):Sem Value):=by
     intro Y
     cases x<;>first|(exact absurd rfl (n1 _))|(exact absurd rfl (n2 _))|(exact absurd rfl (n3 _))|(exact absurd rfl (n4 _))|(exact absurd rfl (n5 _))|(exact absurd rfl (n6 _))|(cases Y<;>rfl)
   split at h
   ·obtain ⟨r,h1,h2,h3⟩:=go _ h
    exact ⟨_,h1,fun _=>trivial,fun X Y w=>by simp only [Sem.run_bind,h3,Result.andThen_ok,be,Op.equal,Op.maxDepth,h2];rfl⟩
   ·obtain ⟨r,h1,h2,h3⟩:=go _ h
    exact ⟨_,h1,fun _=>trivial,fun X Y w=>by simp only [Sem.run_bind,h3,Result.andThen_ok,bn,Op.equal,Op.maxDepth,h2];rfl⟩
   ·exact h.elim
def zi8 (v:Value) (n:Nat):Prop:= ∃kd,v= .int kd (n:Int)
theorem zp7 {v:SV} {k:Nat→Prop} (h:zvl v k): ∃n,k n∧zi8 (v.den ρ) n:=by
  unfold zvl at h
  split at h
  ·obtain ⟨h1,h2⟩:=zq h;exact ⟨_,h2,.i64,by simp [SV.den];omega⟩
  ·exact ⟨_,h,.u8,rfl⟩
  ·exact ⟨_,h,.u16,rfl⟩
  ·exact ⟨_,h,.u32,rfl⟩
  ·exact ⟨_,h,.u64,rfl⟩
  ·exact h.elim
theorem zi8.asIntOf {v:Value} {n:Nat} (h:zi8 v n) (w:World): ∃kd,(asIntOf v).run P w= .ok (kd,(n:Int)) w:=by
  obtain ⟨kd,rfl⟩:=h;exact ⟨kd,rfl⟩
def zs6:Option Value→Option Nat→Prop
  |none,none=>True
  |some v,some n=>zi8 v n
  |_,_=>False
theorem zlu {nt n:Nat} {tm:List (Nat×SV)} {a:Act} (ht:TmRel nt ρ n tm a) {x:Option Operand} {k:Option Nat→Prop} (h:zhk tm x k):
    ∃r,k r∧zs6 (x.map a.eval) r:=by
  unfold zhk at h
  split at h
  ·exact ⟨none,h,trivial⟩
  ·obtain ⟨v,_,h2,h⟩:=zal ht h
   obtain ⟨m,h,h3⟩:=zp7 (ρ:=ρ) h
   exact ⟨some m,h,by simp only [Option.map_some,zs6,h2];exact h3⟩
theorem zbp {v:Value} {n y:Nat} (h:zi8 v n) (hle:n≤y) (code:BoundsCode) (w:World):(Instr.sliceBound v y code).run P w= .ok n w:=by
  obtain ⟨kd,rfl⟩:=h
  have:0≤(n:Int)∧(n:Int)≤(y:Int):=by omega
  simp [Instr.sliceBound,asIntOf,this]
theorem zfu {vl vh vm:Option Value} {lo hi mx:Option Nat} (hl:zs6 vl lo) (hh:zs6 vh hi) (hm:zs6 vm mx) (b:Bool) (len cap:Nat)
    (h0:mx.isSome=true→hi.isSome=true) (h1:mx.getD cap≤cap) (h2: ∀x,hi=some x→x≤mx.getD cap) (h3: ∀x,lo=some x→x≤hi.getD len) (w:World):
    (Instr.sliceBounds b len cap vl vh vm).run P w= .ok (lo.getD 0,hi.getD len,mx.getD cap) w:=by
  unfold Instr.sliceBounds
  cases mx with
  |none=>
   cases vm with
   |some _=>exact hm.elim
   |none=>
    cases hi with
    |none=>
     cases vh with
     |some _=>exact hh.elim
     |none=>
      cases lo with
      |none=>cases vl with
       |some _=>exact hl.elim
       |none=>rfl
      |some l=>cases vl with
       |none=>exact hl.elim
       |some v=>
        have h3':l≤len:=h3 l rfl
        simp only [Sem.run_bind,Sem.run_pure,Result.andThen_ok,zbp (show zi8 v l from hl) h3']
        simp
    |some x=>
     cases vh with
     |none=>exact hh.elim
     |some v=>
      have hx:x≤cap:=h2 x rfl
      cases lo with
      |none=>cases vl with
       |some _=>exact hl.elim
       |none=>simp only [Sem.run_bind,Sem.run_pure,Result.andThen_ok,zbp (show zi8 v x from hh) hx];simp
      |some l=>cases vl with
       |none=>exact hl.elim
       |some u=>
        have h3':l≤x:=h3 l rfl
        simp only [Sem.run_bind,Sem.run_pure,Result.andThen_ok,zbp (show zi8 v x from hh) hx,zbp (show zi8 u l from hl) h3']
        simp
  |some m=>
   cases vm with
   |none=>exact hm.elim
   |some vmv=>
    cases hi with
    |none=>simp at h0
    |some x=>
     cases vh with
     |none=>exact hh.elim
     |some v=>
      have hx:x≤m:=h2 x rfl
      have h1':m≤cap:=h1
      cases lo with
      |none=>cases vl with
       |some _=>exact hl.elim
       |none=>simp only [Sem.run_bind,Sem.run_pure,Result.andThen_ok,zbp (show zi8 vmv m from hm) h1',zbp (show zi8 v x from hh) hx];simp
      |some l=>cases vl with
       |none=>exact hl.elim
       |some u=>
        have h3':l≤x:=h3 l rfl
        simp only [Sem.run_bind,Sem.run_pure,Result.andThen_ok,zbp (show zi8 vmv m from hm) h1',zbp (show zi8 v x from hh) hx,zbp (show zi8 u l from hl) h3']
        simp
theorem zov (l:List UInt8) (a b:Nat):(⟨l.toArray⟩:ByteArray).extract a b=⟨((l.drop a).take (b-a)).toArray⟩:=by
  apply ByteArray.ext
  simp [ByteArray.data_extract,List.extract_eq_take_drop]
theorem zwc {k j b:Nat} {o:List (Nat×Nat)} {n c es:Nat} {lo hi mx:Option Nat} {K:SV→Prop} (hk:p k) (h:zos k j b o n c es lo hi mx K):
    ∃v:SV,K v∧v.ok p∧(mx.isSome=true→hi.isSome=true)∧mx.getD c≤c∧(∀x,hi=some x→x≤mx.getD c)∧(∀x,lo=some x→x≤hi.getD n)∧
     v.den ρ= .slice (some (if mx.getD c=lo.getD 0 then (⟨ρ k,b+off o,none⟩:Addr) else (⟨ρ k,b+off o,none⟩:Addr).add (lo.getD 0*es))) (hi.getD n-lo.getD 0) (mx.getD c-lo.getD 0):=by
  have go: ∀m h:Nat,(match (generalizing:=false) lo with
    |none=>K (.sl k j b o h m)
    |some a=>Pre (a≤h) (K (.sl k j b (yb o (slO m a) es) (h-a) (m-a))))→
    ∃v:SV,K v∧v.ok p∧(∀x,lo=some x→x≤h)∧v.den ρ= .slice (some (if m=lo.getD 0 then (⟨ρ k,b+off o,none⟩:Addr) else (⟨ρ k,b+off o,none⟩:Addr).add (lo.getD 0*es))) (h-lo.getD 0) (m-lo.getD 0):=by
    intro m h hh
    split at hh
    ·refine ⟨_,hh,hk,by simp,?_⟩
     simp only [SV.den,Option.getD_none,Nat.zero_mul,Nat.sub_zero]
     split<;>simp [Addr.add]
    ·rename_i a
     obtain ⟨h1,h2⟩:=zq hh
     refine ⟨_,h2,hk,fun x hx=>by cases hx;exact h1,?_⟩
     by_cases hm:m=a
     ·simp [SV.den,zy,slO,hm]
     ·simp only [SV.den,zy,Option.getD_some,if_neg hm,zdc,slO]
      congr 3;omega
  unfold zos at h
  dsimp only at h
  split at h
  ·obtain ⟨v,h1,h2,h3,h4⟩:=go c n h
   exact ⟨v,h1,h2,by simp,by simp,by simp,h3,h4⟩
  ·rename_i x
   obtain ⟨h0,h⟩:=zq h
   obtain ⟨v,h1,h2,h3,h4⟩:=go c x h
   exact ⟨v,h1,h2,by simp,by simp,fun y hy=>by cases hy;exact h0,h3,h4⟩
  ·rename_i x m
   obtain ⟨h0,h⟩:=zq h
   obtain ⟨v,h1,h2,h3,h4⟩:=go m x h
   exact ⟨v,h1,h2,by simp,h0.2,fun y hy=>by cases hy;exact h0.1,h3,h4⟩
  ·exact h.elim
theorem z99 (hΓ:CtxOK P Γ) {t:TypeId} {x:SV} {vl vh vm:Option Value} {lo hi mx:Option Nat} (hl:zs6 vl lo) (hh:zs6 vh hi) (hm:zs6 vm mx) {K:SV→Prop}
    (hx:x.ok p) (h:ztn Γ t x lo hi mx K):
    ∃v:SV,K v∧v.ok p∧ ∀w,(Instr.sliceAt t (x.den ρ) vl vh vm).run P w= .ok (v.den ρ) w:=by
  unfold ztn at h
  split at h
  ·rename_i l
   obtain ⟨ti,ht,h⟩:=yd h
   have hT:=hΓ.ty t ti ht
   have hu:=hT.2.2.1
   split at h
   rename_i hd
   rw [hd] at hu
   split at h
   ·cases vm with
    |some _=>exact hm.elim
    |none=>
     have hs:(⟨l.toArray⟩:ByteArray).size=l.length:=by simp [ByteArray.size]
     have run:(∀x,hi=some x→x≤l.length)→(∀x,lo=some x→x≤hi.getD l.length)→ ∀w,(Instr.sliceAt t (SV.den ρ (.str l)) vl vh none).run P w= .ok (.string ⟨((l.drop (lo.getD 0)).take (hi.getD l.length-lo.getD 0)).toArray⟩) w:=by
       intro h1 h2 w
       simp only [Instr.sliceAt,Sem.run_bind,run_underlying hu,Result.andThen_ok,Instr.slice,SV.den]
       simp only [Option.isSome_none,Bool.false_eq_true,if_false,hs]
       rw [Sem.run_bind,zfu (mx:=none) hl hh (show zs6 none none from trivial) false _ _ (by simp) (by simp) (by simpa using h1) h2]
       simp only [Result.andThen_ok,Sem.run_pure,zov]
     unfold zyv at h
     split at h
     ·refine ⟨_,h,trivial,fun w=>?_⟩
      rw [run (by simp) (by simp) w];simp [SV.den]
     ·obtain ⟨h1,h2⟩:=zq h
      refine ⟨_,h2,trivial,fun w=>?_⟩
      rw [run (fun x hx=>by cases hx;exact h1) (by simp) w];simp [SV.den]
     ·obtain ⟨h1,h2⟩:=zq h
      refine ⟨_,h2,trivial,fun w=>?_⟩
      rw [run (by simp) (fun x hx=>by cases hx;exact h1) w];simp only [Option.getD_some,Option.getD_none,SV.den];rw [List.take_of_length_le (by simp)]
     ·obtain ⟨h1,h2⟩:=zq h
      refine ⟨_,h2,trivial,fun w=>?_⟩
      rw [run (fun x hx=>by cases hx;exact h1.2) (fun x hx=>by cases hx;exact h1.1) w];simp [SV.den]
   ·exact h.elim
   ·exact h.elim
  ·obtain ⟨ti,ht,h⟩:=yd h
   have hT:=hΓ.ty t ti ht
   have hu:=hT.2.2.1
   split at h
   rename_i e hd
   rw [hd] at hu
   obtain ⟨ei,he,h⟩:=yd h
   have hE:=hΓ.ty e ei he
   have key:(mx.isSome=true→hi.isSome=true)→Pre (zn4 lo∧zn4 hi∧zn4 mx) (K .nilsl)→ ∃v:SV,K v∧v.ok p∧ ∀w,(Instr.sliceAt t (SV.den ρ .nilsl) vl vh vm).run P w= .ok (v.den ρ) w:=by
     intro hsome h
     obtain ⟨⟨z1,z2,z3⟩,h⟩:=zq h
     have e1:lo.getD 0=0:=by cases lo;rfl;exact z1
     have e2:hi.getD 0=0:=by cases hi;rfl;exact z2
     have e3:mx.getD 0=0:=by cases mx;rfl;exact z3
     refine ⟨_,h,trivial,fun w=>?_⟩
     simp only [Instr.sliceAt,Sem.run_bind,run_underlying hu,Result.andThen_ok,Instr.slice,SV.den]
     rw [zfu hl hh hm true 0 0 hsome (by omega) (fun x hx=>by subst hx;simp at e2;omega) (fun x hx=>by subst hx;simp at e1;omega)]
     simp only [Result.andThen_ok,yp hE,Sem.run_pure,e1,e2,e3]
     simp
   split at h
   ·exact h.elim
   ·rename_i hne
    refine key (fun hs=>?_) h
    cases hi with
    |some _=>rfl
    |none=>cases mx with
     |none=>simp at hs
     |some m=>exact absurd rfl (hne m rfl)
   ·exact h.elim
  ·rename_i k j b o n c
   obtain ⟨ti,ht,h⟩:=yd h
   have hT:=hΓ.ty t ti ht
   have hu:=hT.2.2.1
   split at h
   ·rename_i e hd
    rw [hd] at hu
    obtain ⟨ei,he,h⟩:=yd h
    have hE:=hΓ.ty e ei he
    obtain ⟨v,h1,h2,h3,h4,h5,h6,h7⟩:=zwc (ρ:=ρ) hx h
    refine ⟨v,h1,h2,fun w=>?_⟩
    simp only [Instr.sliceAt,Sem.run_bind,run_underlying hu,Result.andThen_ok,Instr.slice,SV.den]
    rw [zfu hl hh hm true n c h3 h4 h5 h6]
    simp only [Result.andThen_ok,yp hE,Sem.run_pure,h7]
    congr 2
    split<;>rfl
   ·exact h.elim
  ·rename_i k j b o
   obtain ⟨ti,ht,h⟩:=yd h
   have hT:=hΓ.ty t ti ht
   have hu:=hT.2.2.1
   split at h
   ·rename_i n e hd
    rw [hd] at hu
    obtain ⟨ei,he,h⟩:=yd h
    have hE:=hΓ.ty e ei he
    obtain ⟨v,h1,h2,h3,h4,h5,h6,h7⟩:=zwc (ρ:=ρ) hx h
    refine ⟨v,h1,h2,fun w=>?_⟩
    simp only [Instr.sliceAt,Sem.run_bind,run_underlying hu,Result.andThen_ok,SV.den,Instr.sureAddr,Sem.run_pure]
    rw [zfu hl hh hm false n n h3 h4 h5 h6]
    simp only [Result.andThen_ok,yp hE,Sem.run_pure,h7]
   ·exact h.elim
  ·exact h.elim
end
end Go.Sym
