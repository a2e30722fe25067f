/-
  The law StreamFull: for every input it returns true, and each argument reads behind the call as it read before. No condition beyond the statement's own.
-/
import Derived.Test.YtmmpgjcpielefaaGreatG32
set_option linter.unusedSimpArgs false
set_option linter.unusedVariables false
namespace Go.Proofs.YtmmpgjcpielefaaGreat.streamFull
open Go.ChangeShapes Go.WideShapes Go.ChangeAt Go.RowKit Go.Sym
open Go.ChangeMaps (open_string shut_string)
open Go.Sym.Z
theorem own:ownKnob Tryz.prog.godebug=none:=by kernel_rfl
theorem laidOut:laidOutB Tryz.prog=true:=by kernel_rfl
theorem bytes_back (x:ByteArray):(⟨x.data.toList.toArray⟩:ByteArray)=x:=by rw [Array.toArray_toList]
theorem weights_of {H:Type} {P:Program} {ts:List TypeId} {ds:List (DataW H)} (h:(DataW.weightsEach P ts ds).all (· ≤reachBytes)=true) {j:Nat} {t:TypeId} {d:DataW H} (ht:ts[j]?=some t) (hd:ds[j]?=some d): ∀n∈d.weights P t,n≤reachBytes:=fun n hn=>by simpa using List.all_eq_true.1 h _ (DataW.weights_mem_each ht hd n hn)
set_option maxRecDepth 100000 in
theorem lifted (os:Os) (started:os.Started) (H:Type) (enc:TypeId×Value→H):
    ReturnsInHanded {} Tryz.checked os 6 .any (Rows.streamFullSpec.pre6 enc Tryz.prog Tryz.f6 Rows.streamFullRow.domain false) (Rows.streamFullSpec.post enc Tryz.prog Tryz.f6 false true false false):=by
  refine returnsInHanded_of_change_sized (C:=Tryz.checked) own started (by kernel_rfl) Tryz.func6
    (ChangeSpec.witness6 (enc:=enc) (C:=Tryz.checked) false ⟨#[], #[.int .i64 0,.int .i64 0],[]⟩ 8 (by kernel_rfl) (by kernel_rfl) (by kernel_rfl) (by kernel_rfl)) ?_
  intro W base args ds gs before hval0 hW hcnd hsz0 _
  have hsz:(DataW.weightsEach Tryz.prog (Tryz.f6.params.toList++Rows.streamFullSpec.plain.varTypes Tryz.prog) (ds++gs)).all (· ≤reachBytes)=true:=hsz0
  have hval: ∀(j:Nat) t v,Tryz.f6.params[j]?=some t→args[j]?=some v→Value.okWide Tryz.prog W .any base t v:=hval0
  have hW':=hW
  obtain ⟨p,q,hA0,hV,rfl,hfz,hnd⟩:=hW
  have hA:DataW.TrodAll enc Tryz.prog W 0 (fun _=>true) true Tryz.f6.params.toList args.toList ds p:=hA0
  rw [Tryz.params6] at hA hval hsz
  obtain ⟨v0,vs0,d0,ds0,p0,q0,hargs,rfl,rfl,h0,r0⟩:=trodAll_cons hA
  obtain ⟨v1,vs1,d1,ds1,p1,q1,rfl,rfl,rfl,h1,r1⟩:=trodAll_cons r0
  obtain ⟨rfl,rfl,rfl⟩:=trodAll_nil r1
  obtain rfl:args= #[v0,v1]:=by cases args;simp_all
  obtain ⟨rfl,rfl⟩:=trodVars_none hV
  obtain ⟨a0,rfl,rfl,rfl,w0⟩:=open_int Tryz.underlying3 (hval 0 3 v0 rfl rfl) h0
  have b0: -9223372036854775808≤a0∧a0≤9223372036854775807:=by have:=w0;simp only [Lit.wf,Bool.and_eq_true,decide_eq_true_eq] at this;exact this
  obtain ⟨a1,rfl,rfl,rfl,w1⟩:=open_int Tryz.underlying3 (hval 1 3 v1 rfl rfl) h1
  have b1: -9223372036854775808≤a1∧a1≤9223372036854775807:=by have:=w1;simp only [Lit.wf,Bool.and_eq_true,decide_eq_true_eq] at this;exact this
  clear hA0 hval0 hsz0 hsz
  have key:=zn0 (w:=W) (rs:= []) (args:= [.int a0,.int a1]) zo8 zon (fun r hr=>by cases hr) (fun r hr=>by cases hr)
    rfl Tryz.func6 (c:=zji Tryz.f6) rfl (D:=pl6) (Nat.le_of_ble_eq_true rfl) ⟨trivial,trivial,trivial⟩ (zmz W a0 b0 a1 b1)
  have eargs:(y3 (fun _=>0) [.int a0,.int a1]).toArray= #[.int .i64 a0,.int .i64 a1]:=by
    rfl
  rw [eargs] at key
  refine key.mono fun e W' ⟨he,bel⟩=>?_
  subst he
  exact ⟨_,rfl,_,_,_,[],_,[],hW',trodAll_mk1 (shut_bool Tryz.underlying4 _),(trodAll_cons_mk (shut_int Tryz.underlying3 w0) (trodAll_cons_mk (shut_int Tryz.underlying3 w1) trodAll_mk0)),rfl,bel.frame _,fun h=>by cases h⟩
theorem over:Rows.streamFullRow.holds Tryz.pinned (OpenSpec.ofChange Rows.streamFullSpec):=
  OpenClaim.holds_of_wide 6 Tryz.f6 rfl rfl rfl rfl rfl rfl rfl ⟨rfl,rfl,rfl,rfl,rfl⟩ rfl rfl rfl rfl rfl (by kernel_rfl) Tryz.func6 (by kernel_rfl)
    (of_decide_eq_true (by kernel_rfl)) (by unfold Func.isWrapper;first|(rw [if_pos (by decide+kernel)];kernel_rfl)|(rw [if_neg (by decide+kernel)];exact ⟨rfl,rfl⟩))
    (fun os started H enc _=>lifted os started H enc)
end Go.Proofs.YtmmpgjcpielefaaGreat.streamFull
namespace Go.Proofs.YtmmpgjcpielefaaGreat
theorem streamFull_holds:Rows.StreamFullSaid:=streamFull.over
end Go.Proofs.YtmmpgjcpielefaaGreat
