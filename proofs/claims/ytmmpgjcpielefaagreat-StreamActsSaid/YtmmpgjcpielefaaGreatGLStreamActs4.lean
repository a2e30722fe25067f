/-
  The symbolic engine, part 8: equality, fields, slicing. No program in sight; no condition beyond each lemma's own.
-/
import Derived.Test.YtmmpgjcpielefaaGreatGLStreamActs3
import Derived.Laws.StructEq
import Derived.Laws.Slices
set_option linter.unusedSimpArgs false
set_option linter.unusedVariables false
namespace Go.Sym
section
variable {P:Program} {Γ:Ctx} {p:Nat→Prop} {ρ:Nat→Nat}
theorem zqp {fi:TyI} {ps:List SV} {c:Nat} {k:SV→Prop} (hp:okL p ps) (h:zg3 fi ps c k):
    ∃v:SV,k v∧v.ok p∧zqo fi (zw ρ ps) c ρ v:=by
  unfold zg3 at h
  split at h
  ·obtain ⟨v,h1,h2,h3⟩:=zkn (ρ:=ρ) hp h
   exact ⟨v,h1,h2,by simpa [off] using h3⟩
  ·rename_i c
   obtain ⟨j,b,o,he,h⟩:=zm5 h
   obtain ⟨v,h1,h2,h3⟩:=zkn (ρ:=ρ) hp h
   exact ⟨v,h1,h2,by rw [he] at h3;simpa using h3⟩
theorem zqz (F:Nat→(Option Bool×Unit)→Sem (ForInStep (Option Bool×Unit))) (a b:List Int) (n:Nat) (ha:a.length=n) (hb:b.length=n)
    (hF: ∀(i:Nat) (h1:i<a.length) (h2:i<b.length) s w,(F i s).run P w= .ok (if a[i]=b[i] then .yield (none,()) else .done (some false,())) w) (w:World):
    ∀(m s:Nat),s+m=n→(forIn (List.range' s m 1) ((none:Option Bool),()) F).run P w= .ok (if a.drop s=b.drop s then (none,()) else (some false,())) w:=by
  intro m
  induction m with
  |zero=>
   intro s hs
   have h1:a.drop s= []:=List.drop_eq_nil_of_le (by omega)
   have h2:b.drop s= []:=List.drop_eq_nil_of_le (by omega)
   simp [h1,h2]
  |succ m ih=>
   intro s hs
   have hsa:s<a.length:=by omega
   have hsb:s<b.length:=by omega
   have ea:a.drop s=a[s] ::a.drop (s+1):=List.drop_eq_getElem_cons hsa
   have eb:b.drop s=b[s] ::b.drop (s+1):=List.drop_eq_getElem_cons hsb
   rw [List.range'_succ,List.forIn_cons,Sem.run_bind,hF s hsa hsb,Result.andThen_ok]
   by_cases hab:a[s]=b[s]
   ·have hiff:a.drop s=b.drop s↔a.drop (s+1)=b.drop (s+1):=by
      rw [ea,eb,hab];exact ⟨fun h=>by injection h,fun h=>by rw [h]⟩
    rw [if_pos hab]
    simp only [hiff]
    exact ih (s+1) (by omega)
   ·have hne: ¬a.drop s=b.drop s:=by rw [ea,eb];intro h;injection h with h1 _;exact hab h1
    rw [if_neg hab,if_neg hne]
    rfl
theorem zf0 {t e:TypeId} {ei:TyI} {kd:IntKind} (he:yt P e ei) (hd:ei.d= .int kd) {n d:Nat} (ht:P.underlying t=some (.array n e)) (hs:ei.sz=1)
    (a b:List Int) (ha:a.length=n) (hb:b.length=n) (w:World):
    (Op.equalIn (d+2) t (.agg (a.map fun x=>Value.int kd x).toArray) (.agg (b.map fun x=>Value.int kd x).toArray)).run P w= .ok (decide (a=b)) w:=by
  have hu:P.underlying e=some (.int kd):=by have:=he.2.2.1;rw [hd] at this;exact this
  have hag:ei.d.agg=false:=by rw [hd];rfl
  have hpart: ∀(l:List Int) (i:Nat) (hi:i<l.length) w,(part e (l.map fun x=>Value.int kd x).toArray (i*1)).run P w= .ok (.int kd l[i]) w:=by
    intro l i hi w
    unfold part
    simp only [Sem.run_bind,zis he,Result.andThen_ok,hag]
    simp [hi]
  unfold Op.equalIn
  simp only [Sem.run_bind,run_underlying ht,Result.andThen_ok,yp he,hs]
  simp only [Std.Legacy.Range.forIn_eq_forIn_range',Std.Legacy.Range.size]
  simp only [Nat.sub_zero,Nat.add_sub_cancel,Nat.div_one]
  rw [zqz _ a b n ha hb (fun i h1 h2 s w=>by
   simp only [Sem.run_bind,hpart a i h1,hpart b i h2,Result.andThen_ok,run_equalIn_int w d e kd kd a[i] b[i] hu,Sem.run_ite]
   by_cases hab:a[i]=b[i]<;>simp [hab]) w n 0 (by omega)]
  by_cases hab:a=b<;>simp [hab]
theorem zm8 {α:Type} [DecidableEq α] (f:α→Int) (hf: ∀x y,f x=f y→x=y) (a b:List α):decide (a.map f=b.map f)=decide (a=b):=by
  have:a.map f=b.map f↔a=b:=⟨fun h=>List.map_inj_right (fun x y=>hf x y) |>.1 h,fun h=>by rw [h]⟩
  simp only [this]
theorem z5t (x y:UInt8) (h:(x.toNat:Int)=(y.toNat:Int)):x=y:=UInt8.toNat_inj.1 (by omega)
theorem z0a (x y:UInt32) (h:(x.toNat:Int)=(y.toNat:Int)):x=y:=UInt32.toNat_inj.1 (by omega)
theorem z1n (x y:UInt64) (h:(x.toNat:Int)=(y.toNat:Int)):x=y:=UInt64.toNat_inj.1 (by omega)
def Eql (P:Program) (ρ:Nat→Nat) (d:Nat) (t:TypeId) (x y:SV) (k:Bool→Prop):Prop:=
  ∃r,k r∧ ∀w,(Op.equalIn d t (x.den ρ) (y.den ρ)).run P w= .ok r w
theorem zab {d:Nat} {t:TypeId} {x y:SV} {k:Bool→Prop} {r:Bool} (h:k r) (hr: ∀d' w,(Op.equalIn (d'+1) t (x.den ρ) (y.den ρ)).run P w= .ok r w):Eql P ρ (d+1) t x y k:=
  ⟨r,h,fun w=>hr d w⟩
mutual
theorem z66 (hΓ:CtxOK P Γ): ∀(f d:Nat) (t:TypeId) (x y:SV) (k:Bool→Prop),f<d→x.ok p→y.ok p→eqK Γ f t x y k→Eql P ρ d t x y k
  |0,_,_,_,_,_,_,_,_,h=>by simp only [eqK] at h
  |f+1,0,_,_,_,_,hf,_,_,_=>by omega
  |f+1,d+1,t,x,y,k,hf,hx,hy,h=>by
   unfold eqK at h
   obtain ⟨ti,ht,h⟩:=yd h
   have hT:=hΓ.ty t ti ht
   have hu:=hT.2.2.1
   split at h
   ·rename_i hd;rw [hd] at hu;split at h
    ·exact zab h fun d' w=>by simp only [SV.den];rw [run_equalIn_int w d' t .i64 .i64 _ _ hu];rfl
    ·exact h.elim
   ·rename_i hd;rw [hd] at hu;split at h
    ·exact zab h fun d' w=>by simp only [SV.den];rw [run_equalIn_int w d' t .u8 .u8 _ _ hu];congr 1;rw [Bool.eq_iff_iff];simp;exact ⟨z5t _ _,fun e=>by rw [e]⟩
    ·exact h.elim
   ·rename_i hd;rw [hd] at hu;split at h
    ·exact zab h fun d' w=>by simp only [SV.den];rw [run_equalIn_int w d' t .u16 .u16 _ _ hu];congr 1;rw [Bool.eq_iff_iff];simp;exact ⟨fun e=>UInt16.toNat_inj.1 (by omega),fun e=>by rw [e]⟩
    ·exact h.elim
   ·rename_i hd;rw [hd] at hu;split at h
    ·exact zab h fun d' w=>by simp only [SV.den];rw [run_equalIn_int w d' t .u32 .u32 _ _ hu];congr 1;rw [Bool.eq_iff_iff];simp;exact ⟨z0a _ _,fun e=>by rw [e]⟩
    ·exact h.elim
   ·rename_i hd;rw [hd] at hu;split at h
    ·exact zab h fun d' w=>by simp only [SV.den];rw [run_equalIn_int w d' t .u64 .u64 _ _ hu];congr 1;rw [Bool.eq_iff_iff];simp;exact ⟨z1n _ _,fun e=>by rw [e]⟩
    ·exact h.elim
   ·rename_i hd;rw [hd] at hu;split at h
    ·exact zab h fun d' w=>by simp only [SV.den];rw [run_equalIn_bool' w d' t _ _ hu]
    ·exact h.elim
   ·rename_i hd;rw [hd] at hu;split at h
    ·exact zab h fun d' w=>by simp only [SV.den];rw [run_equalIn_string w d' t _ _ hu,zr2,zr2];congr 1;rw [Bool.eq_iff_iff];simp
    ·exact h.elim
   ·rename_i hd;rw [hd] at hu;obtain ⟨e,hu⟩:=hu;split at h
    ·exact zab h fun d' w=>by simp [SV.den,Op.equalIn,run_underlying hu]
    ·exact zab h fun d' w=>by simp [SV.den,Op.equalIn,run_underlying hu]
    ·exact zab h fun d' w=>by simp [SV.den,Op.equalIn,run_underlying hu]
    ·exact h.elim
   ·rename_i hd;rw [hd] at hu;split at h
    ·exact zab h fun d' w=>by simp [SV.den,Op.equalIn,run_underlying hu]
    ·exact zab h fun d' w=>by simp [SV.den,Op.equalIn,run_underlying hu]
    ·exact zab h fun d' w=>by simp [SV.den,Op.equalIn,run_underlying hu]
    ·exact h.elim
   ·rename_i hd;rw [hd] at hu;obtain ⟨e1,e2,e3,hu⟩:=hu;split at h
    ·exact zab h fun d' w=>by simp [SV.den,Op.equalIn,run_underlying hu]
    ·exact zab h fun d' w=>by simp [SV.den,Op.equalIn,run_underlying hu]
    ·exact zab h fun d' w=>by simp [SV.den,Op.equalIn,run_underlying hu]
    ·exact h.elim
   ·rename_i n e hd
    rw [hd] at hu
    obtain ⟨ei,he,h⟩:=yd h
    have hE:=hΓ.ty e ei he
    have hsz: ∀kd,ei.d= .int kd→ei.sz=1:=fun kd hk=>hE.2.1.2.1 (by rw [hk];rfl)
    split at h
    ·rename_i hd2;split at h
     ·rename_i m a m' b _ _
      split at h
      ·rename_i _ e1
       split at h
       ·rename_i _ e2
        have e1:=Nat.eq_of_beq_eq_true e1
        have e2:=Nat.eq_of_beq_eq_true e2
        have la:a.length=n:=by rw [←e1];exact hx
        have lb:b.length=n:=by rw [←e2];exact hy
        obtain ⟨d,rfl⟩: ∃d',d=d'+1:=⟨d-1,by omega⟩
        refine ⟨_,h,fun w=>?_⟩
        have:=zf0 (P:=P) (d:=d) hE hd2 hu (hsz _ hd2) (a.map (fun x:UInt64=>(x.toNat:Int))) (b.map (fun x:UInt64=>(x.toNat:Int))) (by simpa using la) (by simpa using lb) w
        simp only [List.map_map] at this
        rw [zm8 (fun x:UInt64=>(x.toNat:Int)) z1n] at this
        exact this
       ·exact h.elim
      ·exact h.elim
     ·exact h.elim
    ·rename_i hd2;split at h
     ·rename_i m a m' b _ _
      split at h
      ·rename_i _ e1
       split at h
       ·rename_i _ e2
        have e1:=Nat.eq_of_beq_eq_true e1
        have e2:=Nat.eq_of_beq_eq_true e2
        have la:a.length=n:=by rw [←e1];exact hx
        have lb:b.length=n:=by rw [←e2];exact hy
        obtain ⟨d,rfl⟩: ∃d',d=d'+1:=⟨d-1,by omega⟩
        refine ⟨_,h,fun w=>?_⟩
        have:=zf0 (P:=P) (d:=d) hE hd2 hu (hsz _ hd2) (a.map (fun x:UInt32=>(x.toNat:Int))) (b.map (fun x:UInt32=>(x.toNat:Int))) (by simpa using la) (by simpa using lb) w
        simp only [List.map_map] at this
        rw [zm8 (fun x:UInt32=>(x.toNat:Int)) z0a] at this
        exact this
       ·exact h.elim
      ·exact h.elim
     ·exact h.elim
    ·rename_i hd2;split at h
     ·rename_i m a m' b _ _
      split at h
      ·rename_i _ e1
       split at h
       ·rename_i _ e2
        have e1:=Nat.eq_of_beq_eq_true e1
        have e2:=Nat.eq_of_beq_eq_true e2
        have la:a.length=n:=by rw [←e1];exact hx
        have lb:b.length=n:=by rw [←e2];exact hy
        obtain ⟨d,rfl⟩: ∃d',d=d'+1:=⟨d-1,by omega⟩
        refine ⟨_,h,fun w=>?_⟩
        have:=zf0 (P:=P) (d:=d) hE hd2 hu (hsz _ hd2) (a.map (fun x:UInt8=>(x.toNat:Int))) (b.map (fun x:UInt8=>(x.toNat:Int))) (by simpa using la) (by simpa using lb) w
        simp only [List.map_map] at this
        rw [zm8 (fun x:UInt8=>(x.toNat:Int)) z5t] at this
        exact this
       ·exact h.elim
      ·exact h.elim
     ·exact h.elim
    ·rename_i hd2;split at h
     ·rename_i m a m' b _ _
      split at h
      ·rename_i _ e1
       split at h
       ·rename_i _ e2
        have e1:=Nat.eq_of_beq_eq_true e1
        have e2:=Nat.eq_of_beq_eq_true e2
        have la:a.length=n:=by rw [←e1];exact hx
        have lb:b.length=n:=by rw [←e2];exact hy
        obtain ⟨d,rfl⟩: ∃d',d=d'+1:=⟨d-1,by omega⟩
        refine ⟨_,h,fun w=>?_⟩
        have:=zf0 (P:=P) (d:=d) hE hd2 hu (hsz _ hd2) (a.map (fun x:Int=>x)) (b.map (fun x:Int=>x)) (by simpa using la) (by simpa using lb) w
        simp only [List.map_map] at this
        rw [zm8 (fun x:Int=>x) (fun x y h=>h)] at this
        exact this
       ·exact h.elim
      ·exact h.elim
     ·exact h.elim
    ·exact h.elim
   ·rename_i fs hd
    rw [hd] at hu
    obtain ⟨flds,hu,hfs,hn⟩:=hu
    split at h
    ·rename_i hok
     obtain ⟨hs1,hs2⟩:=hT.2.2.2 hok
     split at h
     ·rename_i hmx
      split at h
      ·rename_i hmy
       obtain ⟨xs,h,hx1,_,hx2⟩:=zfs (p:=p) ρ h
       obtain ⟨ys,h,hy1,_,hy2⟩:=zfs (p:=p) ρ h
       obtain ⟨r,h,hr⟩:=z7m hΓ f d fs flds.toList xs ys k (by omega) (hx2 hx) (hy2 hy) hfs (fun g hg=>hn g (Array.mem_toList_iff.1 hg)) h
       refine ⟨r,h,fun w=>?_⟩
       have hfo:P.fieldsOf t=flds:=by simp [Program.fieldsOf,hu]
       rw [zdi hmx,zdi hmy,run_equalIn_struct w d t _ _ (by rw [hfo];exact hu) hs1,hfo,←hx1,←hy1]
       exact hr w
      ·exact h.elim
     ·exact h.elim
    ·exact h.elim
   ·exact h.elim
theorem z7m (hΓ:CtxOK P Γ): ∀(f d:Nat) (fs:List (Nat×TypeId)) (flds:List Field) (xs ys:List SV) (k:Bool→Prop),f≤d→okL p xs→okL p ys→
    (flds.map fun f=>(f.offset,f.type))=fs→(∀g∈flds,g.name≠ "_")→zng Γ f fs xs ys k→
    ∃r,k r∧ ∀w,(Op.eqFields d (zw ρ xs).toArray (zw ρ ys).toArray flds).run P w= .ok r w
  |0,_,_,_,_,_,_,_,_,_,_,_,h=>by simp only [zng] at h
  |f+1,d,fs,[],xs,ys,k,_,_,_,hfs,_,h=>by
   subst hfs
   simp only [List.map_nil,zng] at h
   exact ⟨true,h,fun w=>rfl⟩
  |f+1,d,fs,g ::flds,xs,ys,k,hf,hx,hy,hfs,hn,h=>by
   subst hfs
   simp only [List.map_cons,zng] at h
   obtain ⟨ti,ht,h⟩:=yd h
   have hT:=hΓ.ty _ ti ht
   obtain ⟨a,h,hoa,hla⟩:=zqp (ρ:=ρ) hx h
   obtain ⟨b,h,hob,hlb⟩:=zqp (ρ:=ρ) hy h
   obtain ⟨r,h,hr⟩:=z66 hΓ f d _ a b _ (by omega) hoa hob h
   obtain ⟨r',h,hr'⟩:=z7m hΓ f d _ flds xs ys _ (by omega) hx hy rfl (fun g' hg'=>hn g' (by simp [hg'])) h
   refine ⟨_,h,fun w=>?_⟩
   have hg:g.name≠ "_" :=hn g (by simp)
   simp only [Op.eqFields,hg,if_true,ne_eq,not_false_eq_true,Sem.run_bind,zh5 hT hla,zh5 hT hlb,Result.andThen_ok,hr,Sem.run_ite]
   cases r
   ·simp
   ·simp [hr']
end
end
end Go.Sym
