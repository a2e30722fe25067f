/-
  The law RecKeys: for every input it returns true, and each argument reads behind the call as it read before. No condition beyond the statement's own.
-/
import Derived.Test.YtmmpgjcpielefaaGLRecKeys0
set_option linter.unusedSimpArgs false
set_option linter.unusedVariables false
namespace Go.Proofs.Ytmmpgjcpielefaa.recKeys
open Go.ChangeShapes Go.WideShapes Go.ChangeAt Go.RowKit Go.Sym
open Go.ChangeMaps (open_string shut_string)
open Go.Sym.A
theorem own:ownKnob Try.prog.godebug=none:=by kernel_rfl
theorem laidOut:laidOutB Try.prog=true:=by kernel_rfl
theorem bytes_back (x:ByteArray):(⟨x.data.toList.toArray⟩:ByteArray)=x:=by rw [Array.toArray_toList]
theorem weights_of {H:Type} {P:Program} {ts:List TypeId} {ds:List (DataW H)} (h:(DataW.weightsEach P ts ds).all (· ≤reachBytes)=true) {j:Nat} {t:TypeId} {d:DataW H} (ht:ts[j]?=some t) (hd:ds[j]?=some d): ∀n∈d.weights P t,n≤reachBytes:=fun n hn=>by simpa using List.all_eq_true.1 h _ (DataW.weights_mem_each ht hd n hn)
set_option maxRecDepth 100000 in
theorem lifted (os:Os) (started:os.Started) (H:Type) (enc:TypeId×Value→H):
    ReturnsInHanded {} Try.checked os 9 .any (Rows.recKeysSpec.pre6 enc Try.prog Try.f9 Rows.recKeysRow.domain false) (Rows.recKeysSpec.post enc Try.prog Try.f9 false true false false):=by
  refine returnsInHanded_of_change_sized (C:=Try.checked) own started (by kernel_rfl) Try.func9
    (ChangeSpec.witness6 (enc:=enc) (C:=Try.checked) false ⟨#[], #[.string ByteArray.empty,.int .i64 0,.int .i64 0],[]⟩ 8 (by kernel_rfl) (by kernel_rfl) (by kernel_rfl) (by kernel_rfl)) ?_
  intro W base args ds gs before hval0 hW hcnd hsz0 _
  have hsz:(DataW.weightsEach Try.prog (Try.f9.params.toList++Rows.recKeysSpec.plain.varTypes Try.prog) (ds++gs)).all (· ≤reachBytes)=true:=hsz0
  have hval: ∀(j:Nat) t v,Try.f9.params[j]?=some t→args[j]?=some v→Value.okWide Try.prog W .any base t v:=hval0
  have hW':=hW
  obtain ⟨p,q,hA0,hV,rfl,hfz,hnd⟩:=hW
  have hA:DataW.TrodAll enc Try.prog W 0 (fun _=>true) true Try.f9.params.toList args.toList ds p:=hA0
  rw [Try.params9] at hA hval hsz
  obtain ⟨v0,vs0,d0,ds0,p0,q0,hargs,rfl,rfl,h0,r0⟩:=trodAll_cons hA
  obtain ⟨v1,vs1,d1,ds1,p1,q1,rfl,rfl,rfl,h1,r1⟩:=trodAll_cons r0
  obtain ⟨v2,vs2,d2,ds2,p2,q2,rfl,rfl,rfl,h2,r2⟩:=trodAll_cons r1
  obtain ⟨rfl,rfl,rfl⟩:=trodAll_nil r2
  obtain rfl:args= #[v0,v1,v2]:=by cases args;simp_all
  obtain ⟨rfl,rfl⟩:=trodVars_none hV
  obtain ⟨a0,rfl,rfl,rfl,y0⟩:=open_string Try.underlying9 (hval 0 9 v0 rfl rfl) h0
  have w0:a0.data.toList.length≤140737488351232:=sized_string hsz (j:=0) (t:=9) rfl rfl
  obtain ⟨a1,rfl,rfl,rfl,w1⟩:=open_int Try.underlying3 (hval 1 3 v1 rfl rfl) h1
  have b1: -9223372036854775808≤a1∧a1≤9223372036854775807:=by have:=w1;simp only [Lit.wf,Bool.and_eq_true,decide_eq_true_eq] at this;exact this
  obtain ⟨a2,rfl,rfl,rfl,w2⟩:=open_int Try.underlying3 (hval 2 3 v2 rfl rfl) h2
  have b2: -9223372036854775808≤a2∧a2≤9223372036854775807:=by have:=w2;simp only [Lit.wf,Bool.and_eq_true,decide_eq_true_eq] at this;exact this
  clear hA0 hval0 hsz0 hsz
  have key:=zf2 (w:=W) (rs:= []) (args:= [.str a0.data.toList,.int a1,.int a2]) yi zvl (fun r hr=>by cases hr) (fun r hr=>by cases hr)
    rfl Try.func9 (c:=zbz Try.f9) rfl (D:=pl9) (Nat.le_of_ble_eq_true rfl) ⟨trivial,trivial,trivial,trivial⟩ (zq5 W a0.data.toList w0 a1 b1 a2 b2)
  have eargs:(yu (fun _=>0) [.str a0.data.toList,.int a1,.int a2]).toArray= #[.string a0,.int .i64 a1,.int .i64 a2]:=by
    simp only [yu,SV.den,bytes_back]
  rw [eargs] at key
  refine key.mono fun e W' ⟨he,bel⟩=>?_
  subst he
  exact ⟨_,rfl,_,_,_,[],_,[],hW',trodAll_mk1 (shut_bool Try.underlying4 _),(trodAll_cons_mk (shut_string Try.underlying9 y0) (trodAll_cons_mk (shut_int Try.underlying3 w1) (trodAll_cons_mk (shut_int Try.underlying3 w2) trodAll_mk0))),rfl,bel.frame _,fun h=>by cases h⟩
theorem over:Rows.recKeysRow.holds Try.pinned (OpenSpec.ofChange Rows.recKeysSpec):=
  OpenClaim.holds_of_wide 9 Try.f9 rfl rfl rfl rfl rfl rfl rfl ⟨rfl,rfl,rfl,rfl,rfl⟩ rfl rfl rfl rfl rfl (by kernel_rfl) Try.func9 (by kernel_rfl)
    (of_decide_eq_true (by kernel_rfl)) (by unfold Func.isWrapper;first|(rw [if_pos (by decide+kernel)];kernel_rfl)|(rw [if_neg (by decide+kernel)];exact ⟨rfl,rfl⟩))
    (fun os started H enc _=>lifted os started H enc)
end Go.Proofs.Ytmmpgjcpielefaa.recKeys
namespace Go.Proofs.Ytmmpgjcpielefaa
theorem recKeys_holds:Rows.RecKeysSaid:=recKeys.over
end Go.Proofs.Ytmmpgjcpielefaa
