/-
  The law RecInner: for every input it returns true, and each argument reads behind the call as it read before. No condition beyond the statement's own.
-/
import Derived.Test.YtmmpgjcpielefaaGreatG41
set_option linter.unusedSimpArgs false
set_option linter.unusedVariables false
namespace Go.Proofs.YtmmpgjcpielefaaGreat.recInner
open Go.ChangeShapes Go.WideShapes Go.ChangeAt Go.RowKit Go.Sym
open Go.ChangeMaps (open_string shut_string)
open Go.Sym.Z
theorem own:ownKnob Tryz.prog.godebug=none:=by kernel_rfl
theorem laidOut:laidOutB Tryz.prog=true:=by kernel_rfl
theorem bytes_back (x:ByteArray):(⟨x.data.toList.toArray⟩:ByteArray)=x:=by rw [Array.toArray_toList]
theorem weights_of {H:Type} {P:Program} {ts:List TypeId} {ds:List (DataW H)} (h:(DataW.weightsEach P ts ds).all (· ≤reachBytes)=true) {j:Nat} {t:TypeId} {d:DataW H} (ht:ts[j]?=some t) (hd:ds[j]?=some d): ∀n∈d.weights P t,n≤reachBytes:=fun n hn=>by simpa using List.all_eq_true.1 h _ (DataW.weights_mem_each ht hd n hn)
set_option maxRecDepth 100000 in
theorem lifted (os:Os) (started:os.Started) (H:Type) (enc:TypeId×Value→H):
    ReturnsInHanded {} Tryz.checked os 4 .any (Rows.recInnerSpec.pre6 enc Tryz.prog Tryz.f4 Rows.recInnerRow.domain false) (Rows.recInnerSpec.post enc Tryz.prog Tryz.f4 false true false false):=by
  refine returnsInHanded_of_change_sized (C:=Tryz.checked) own started (by kernel_rfl) Tryz.func4
    (ChangeSpec.witness6 (enc:=enc) (C:=Tryz.checked) false ⟨#[], #[.int .i64 0,.string ByteArray.empty,.string ByteArray.empty,.int .i64 0,.int .i64 0],[]⟩ 8 (by kernel_rfl) (by kernel_rfl) (by kernel_rfl) (by kernel_rfl)) ?_
  intro W base args ds gs before hval0 hW hcnd hsz0 _
  have hsz:(DataW.weightsEach Tryz.prog (Tryz.f4.params.toList++Rows.recInnerSpec.plain.varTypes Tryz.prog) (ds++gs)).all (· ≤reachBytes)=true:=hsz0
  have hval: ∀(j:Nat) t v,Tryz.f4.params[j]?=some t→args[j]?=some v→Value.okWide Tryz.prog W .any base t v:=hval0
  have hW':=hW
  obtain ⟨p,q,hA0,hV,rfl,hfz,hnd⟩:=hW
  have hA:DataW.TrodAll enc Tryz.prog W 0 (fun _=>true) true Tryz.f4.params.toList args.toList ds p:=hA0
  rw [Tryz.params4] at hA hval hsz
  obtain ⟨v0,vs0,d0,ds0,p0,q0,hargs,rfl,rfl,h0,r0⟩:=trodAll_cons hA
  obtain ⟨v1,vs1,d1,ds1,p1,q1,rfl,rfl,rfl,h1,r1⟩:=trodAll_cons r0
  obtain ⟨v2,vs2,d2,ds2,p2,q2,rfl,rfl,rfl,h2,r2⟩:=trodAll_cons r1
  obtain ⟨v3,vs3,d3,ds3,p3,q3,rfl,rfl,rfl,h3,r3⟩:=trodAll_cons r2
  obtain ⟨v4,vs4,d4,ds4,p4,q4,rfl,rfl,rfl,h4,r4⟩:=trodAll_cons r3
  obtain ⟨rfl,rfl,rfl⟩:=trodAll_nil r4
  obtain rfl:args= #[v0,v1,v2,v3,v4]:=by cases args;simp_all
  obtain ⟨rfl,rfl⟩:=trodVars_none hV
  obtain ⟨a0,rfl,rfl,rfl,w0⟩:=open_int Tryz.underlying3 (hval 0 3 v0 rfl rfl) h0
  have b0: -9223372036854775808≤a0∧a0≤9223372036854775807:=by have:=w0;simp only [Lit.wf,Bool.and_eq_true,decide_eq_true_eq] at this;exact this
  obtain ⟨a1,rfl,rfl,rfl,y1⟩:=open_string Tryz.underlying9 (hval 1 9 v1 rfl rfl) h1
  have w1:a1.data.toList.length≤140737488351232:=sized_string hsz (j:=1) (t:=9) rfl rfl
  obtain ⟨a2,rfl,rfl,rfl,y2⟩:=open_string Tryz.underlying9 (hval 2 9 v2 rfl rfl) h2
  have w2:a2.data.toList.length≤140737488351232:=sized_string hsz (j:=2) (t:=9) rfl rfl
  obtain ⟨a3,rfl,rfl,rfl,w3⟩:=open_int Tryz.underlying3 (hval 3 3 v3 rfl rfl) h3
  have b3: -9223372036854775808≤a3∧a3≤9223372036854775807:=by have:=w3;simp only [Lit.wf,Bool.and_eq_true,decide_eq_true_eq] at this;exact this
  obtain ⟨a4,rfl,rfl,rfl,w4⟩:=open_int Tryz.underlying3 (hval 4 3 v4 rfl rfl) h4
  have b4: -9223372036854775808≤a4∧a4≤9223372036854775807:=by have:=w4;simp only [Lit.wf,Bool.and_eq_true,decide_eq_true_eq] at this;exact this
  clear hA0 hval0 hsz0 hsz
  have key:=zqj (w:=W) (rs:= []) (args:= [.int a0,.str a1.data.toList,.str a2.data.toList,.int a3,.int a4]) zzv zpx (fun r hr=>by cases hr) (fun r hr=>by cases hr)
    rfl Tryz.func4 (c:=zk9 Tryz.f4) rfl (D:=pl4) (Nat.le_of_ble_eq_true rfl) ⟨trivial,trivial,trivial,trivial,trivial,trivial⟩ (zsb W a0 b0 a1.data.toList w1 a2.data.toList w2 a3 b3 a4 b4)
  have eargs:(xc (fun _=>0) [.int a0,.str a1.data.toList,.str a2.data.toList,.int a3,.int a4]).toArray= #[.int .i64 a0,.string a1,.string a2,.int .i64 a3,.int .i64 a4]:=by
    simp only [xc,SV.den,bytes_back]
  rw [eargs] at key
  refine key.mono fun e W' ⟨he,bel⟩=>?_
  subst he
  exact ⟨_,rfl,_,_,_,[],_,[],hW',trodAll_mk1 (shut_bool Tryz.underlying4 _),(trodAll_cons_mk (shut_int Tryz.underlying3 w0) (trodAll_cons_mk (shut_string Tryz.underlying9 y1) (trodAll_cons_mk (shut_string Tryz.underlying9 y2) (trodAll_cons_mk (shut_int Tryz.underlying3 w3) (trodAll_cons_mk (shut_int Tryz.underlying3 w4) trodAll_mk0))))),rfl,bel.frame _,fun h=>by cases h⟩
theorem over:Rows.recInnerRow.holds Tryz.pinned (OpenSpec.ofChange Rows.recInnerSpec):=
  OpenClaim.holds_of_wide 4 Tryz.f4 rfl rfl rfl rfl rfl rfl rfl ⟨rfl,rfl,rfl,rfl,rfl⟩ rfl rfl rfl rfl rfl (by kernel_rfl) Tryz.func4 (by kernel_rfl)
    (of_decide_eq_true (by kernel_rfl)) (by unfold Func.isWrapper;first|(rw [if_pos (by decide+kernel)];kernel_rfl)|(rw [if_neg (by decide+kernel)];exact ⟨rfl,rfl⟩))
    (fun os started H enc _=>lifted os started H enc)
end Go.Proofs.YtmmpgjcpielefaaGreat.recInner
namespace Go.Proofs.YtmmpgjcpielefaaGreat
theorem recInner_holds:Rows.RecInnerSaid:=recInner.over
end Go.Proofs.YtmmpgjcpielefaaGreat
