/-
  The law StreamActs: for every input it returns true, and each argument reads behind the call as it read before. No condition beyond the statement's own.
-/
import Derived.Test.YtmmpgjcpielefaaGreatGLStreamActs33
set_option linter.unusedSimpArgs false
set_option linter.unusedVariables false
namespace Go.Proofs.YtmmpgjcpielefaaGreat.streamActs
open Go.ChangeShapes Go.WideShapes Go.ChangeAt Go.RowKit Go.Sym
open Go.ChangeMaps (open_string shut_string)
open Go.Sym.Z
theorem own:ownKnob Tryz.prog.godebug=none:=by kernel_rfl
theorem laidOut:laidOutB Tryz.prog=true:=by kernel_rfl
theorem bytes_back (x:ByteArray):(⟨x.data.toList.toArray⟩:ByteArray)=x:=by rw [Array.toArray_toList]
theorem weights_of {H:Type} {P:Program} {ts:List TypeId} {ds:List (DataW H)} (h:(DataW.weightsEach P ts ds).all (· ≤reachBytes)=true) {j:Nat} {t:TypeId} {d:DataW H} (ht:ts[j]?=some t) (hd:ds[j]?=some d): ∀n∈d.weights P t,n≤reachBytes:=fun n hn=>by simpa using List.all_eq_true.1 h _ (DataW.weights_mem_each ht hd n hn)
set_option maxRecDepth 100000 in
theorem lifted (os:Os) (started:os.Started) (H:Type) (enc:TypeId×Value→H):
    ReturnsInHanded {} Tryz.checked os 8 .any (Rows.streamActsSpec.pre6 enc Tryz.prog Tryz.f8 Rows.streamActsRow.domain false) (Rows.streamActsSpec.post enc Tryz.prog Tryz.f8 false true false false):=by
  refine returnsInHanded_of_change_sized (C:=Tryz.checked) own started (by kernel_rfl) Tryz.func8
    (ChangeSpec.witness6 (enc:=enc) (C:=Tryz.checked) false ⟨#[], #[.int .i64 0,.int .i64 0,.slice none 0 0],[]⟩ 8 (by kernel_rfl) (by kernel_rfl) (by kernel_rfl) (by kernel_rfl)) ?_
  intro W base args ds gs before hval0 hW hcnd hsz0 _
  have hsz:(DataW.weightsEach Tryz.prog (Tryz.f8.params.toList++Rows.streamActsSpec.plain.varTypes Tryz.prog) (ds++gs)).all (· ≤reachBytes)=true:=hsz0
  have hval: ∀(j:Nat) t v,Tryz.f8.params[j]?=some t→args[j]?=some v→Value.okWide Tryz.prog W .any base t v:=hval0
  have hW':=hW
  obtain ⟨p,q,hA0,hV,rfl,hfz,hnd⟩:=hW
  have hA:DataW.TrodAll enc Tryz.prog W 0 (fun _=>true) true Tryz.f8.params.toList args.toList ds p:=hA0
  rw [Tryz.params8] at hA hval hsz
  obtain ⟨v0,vs0,d0,ds0,p0,q0,hargs,rfl,rfl,h0,r0⟩:=trodAll_cons hA
  obtain ⟨v1,vs1,d1,ds1,p1,q1,rfl,rfl,rfl,h1,r1⟩:=trodAll_cons r0
  obtain ⟨v2,vs2,d2,ds2,p2,q2,rfl,rfl,rfl,h2,r2⟩:=trodAll_cons r1
  obtain ⟨rfl,rfl,rfl⟩:=trodAll_nil r2
  obtain rfl:args= #[v0,v1,v2]:=by cases args;simp_all
  obtain ⟨rfl,rfl⟩:=trodVars_none hV
  obtain ⟨a0,rfl,rfl,rfl,w0⟩:=open_int Tryz.underlying3 (hval 0 3 v0 rfl rfl) h0
  have b0: -9223372036854775808≤a0∧a0≤9223372036854775807:=by have:=w0;simp only [Lit.wf,Bool.and_eq_true,decide_eq_true_eq] at this;exact this
  obtain ⟨a1,rfl,rfl,rfl,w1⟩:=open_int Tryz.underlying3 (hval 1 3 v1 rfl rfl) h1
  have b1: -9223372036854775808≤a1∧a1≤9223372036854775807:=by have:=w1;simp only [Lit.wf,Bool.and_eq_true,decide_eq_true_eq] at this;exact this
  have k2:=h2
  have lt2: ∀x∈p2,x.block<W.heap.size:=by obtain ⟨m,hm⟩:=k2;exact DataW.trod_lt m _ _ _ hm
  obtain ⟨a2,n2,c2,rows2,rfl,z2,l2,m2,s2,len2,has2,cell2⟩:=z8c (P:=Tryz.prog) Tryz.underlying62 (one:=false) (fls:= [.i,.s,.i,.s,.i,.b]) (e:=63) ⟨_,Tryz.underlying63,by kernel_rfl,by kernel_rfl⟩ (by kernel_rfl) (by decide) (okWide_slice Tryz.underlying62 (hval 2 62 v2 rfl rfl)) h2 (weights_of hsz (j:=2) rfl rfl)
  have bb2:n2*64≤140737488351232:=s2
  clear hA0 hval0 hsz0 hsz
  have key:=z2a (w:=W) (rs:= [⟨63,a2.getD ⟨0,0,none⟩,6,false,rows2⟩]) (args:= [.int a0,.int a1,.xsl a2 n2 c2]) ybi z28 (fun r hr=>by
   simp only [List.mem_cons,List.not_mem_nil,or_false] at hr
   subst hr
   exact ⟨⟨_,Go.Sym.Z.ty63_ok,rfl,.inr ⟨rfl,rfl⟩⟩,fun r hr=>(has2 r hr).2,cell2⟩) (fun r hr=>by
   simp only [List.mem_cons,List.not_mem_nil,or_false] at hr
   rcases hr with rfl<;>exact Nat.le_of_ble_eq_true rfl)
    rfl Tryz.func8 (c:=zqn Tryz.f8) rfl (D:=pl8) (Nat.le_of_ble_eq_true rfl) ⟨trivial,trivial,z2,trivial⟩ (zqh W a0 b0 a1 b1 a2 n2 c2 rows2 len2 bb2 has2)
  have eargs:(xf (fun _=>0) [.int a0,.int a1,.xsl a2 n2 c2]).toArray= #[.int .i64 a0,.int .i64 a1,.slice a2 n2 c2]:=by
    rfl
  rw [eargs] at key
  refine key.mono fun e W' ⟨he,bel⟩=>?_
  subst he
  exact ⟨_,rfl,_,_,_,[],_,[],hW',trodAll_mk1 (shut_bool Tryz.underlying4 _),(trodAll_cons_mk (shut_int Tryz.underlying3 w0) (trodAll_cons_mk (shut_int Tryz.underlying3 w1) (trodAll_cons_mk (Below.trod laidOut (by kernel_rfl) (of_decide_eq_true (by kernel_rfl)) k2 bel lt2) trodAll_mk0))),rfl,bel.frame _,fun h=>by cases h⟩
theorem over:Rows.streamActsRow.holds Tryz.pinned (OpenSpec.ofChange Rows.streamActsSpec):=
  OpenClaim.holds_of_wide 8 Tryz.f8 rfl rfl rfl rfl rfl rfl rfl ⟨rfl,rfl,rfl,rfl,rfl⟩ rfl rfl rfl rfl rfl (by kernel_rfl) Tryz.func8 (by kernel_rfl)
    (of_decide_eq_true (by kernel_rfl)) (by unfold Func.isWrapper;first|(rw [if_pos (by decide+kernel)];kernel_rfl)|(rw [if_neg (by decide+kernel)];exact ⟨rfl,rfl⟩))
    (fun os started H enc _=>lifted os started H enc)
end Go.Proofs.YtmmpgjcpielefaaGreat.streamActs
namespace Go.Proofs.YtmmpgjcpielefaaGreat
theorem streamActs_holds:Rows.StreamActsSaid:=streamActs.over
end Go.Proofs.YtmmpgjcpielefaaGreat
