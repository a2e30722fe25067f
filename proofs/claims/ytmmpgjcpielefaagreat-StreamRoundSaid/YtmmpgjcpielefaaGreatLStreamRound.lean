/-
  The law StreamRound: for every input it returns true, and each argument reads behind the call as it read before. No condition beyond the statement's own.
-/
import Derived.Test.YtmmpgjcpielefaaGreatGLStreamRound0
set_option linter.unusedSimpArgs false
set_option linter.unusedVariables false
namespace Go.Proofs.YtmmpgjcpielefaaGreat.streamRound
open Go.ChangeShapes Go.WideShapes Go.ChangeAt Go.RowKit Go.Sym
open Go.ChangeMaps (open_string shut_string)
open Go.Sym.Z
theorem own:ownKnob Tryz.prog.godebug=none:=by kernel_rfl
theorem laidOut:laidOutB Tryz.prog=true:=by kernel_rfl
theorem bytes_back (x:ByteArray):(⟨x.data.toList.toArray⟩:ByteArray)=x:=by rw [Array.toArray_toList]
theorem weights_of {H:Type} {P:Program} {ts:List TypeId} {ds:List (DataW H)} (h:(DataW.weightsEach P ts ds).all (· ≤reachBytes)=true) {j:Nat} {t:TypeId} {d:DataW H} (ht:ts[j]?=some t) (hd:ds[j]?=some d): ∀n∈d.weights P t,n≤reachBytes:=fun n hn=>by simpa using List.all_eq_true.1 h _ (DataW.weights_mem_each ht hd n hn)
set_option maxRecDepth 100000 in
theorem lifted (os:Os) (started:os.Started) (H:Type) (enc:TypeId×Value→H):
    ReturnsInHanded {} Tryz.checked os 7 .any (Rows.streamRoundSpec.pre6 enc Tryz.prog Tryz.f7 Rows.streamRoundRow.domain false) (Rows.streamRoundSpec.post enc Tryz.prog Tryz.f7 false true false false):=by
  refine returnsInHanded_of_change_sized (C:=Tryz.checked) own started (by kernel_rfl) Tryz.func7
    (ChangeSpec.witness6 (enc:=enc) (C:=Tryz.checked) false ⟨#[], #[.int .i64 0,.slice none 0 0,.int .i64 0],[]⟩ 8 (by kernel_rfl) (by kernel_rfl) (by kernel_rfl) (by kernel_rfl)) ?_
  intro W base args ds gs before hval0 hW hcnd hsz0 _
  have hsz:(DataW.weightsEach Tryz.prog (Tryz.f7.params.toList++Rows.streamRoundSpec.plain.varTypes Tryz.prog) (ds++gs)).all (· ≤reachBytes)=true:=hsz0
  have hval: ∀(j:Nat) t v,Tryz.f7.params[j]?=some t→args[j]?=some v→Value.okWide Tryz.prog W .any base t v:=hval0
  have hW':=hW
  obtain ⟨p,q,hA0,hV,rfl,hfz,hnd⟩:=hW
  have hA:DataW.TrodAll enc Tryz.prog W 0 (fun _=>true) true Tryz.f7.params.toList args.toList ds p:=hA0
  rw [Tryz.params7] at hA hval hsz
  obtain ⟨v0,vs0,d0,ds0,p0,q0,hargs,rfl,rfl,h0,r0⟩:=trodAll_cons hA
  obtain ⟨v1,vs1,d1,ds1,p1,q1,rfl,rfl,rfl,h1,r1⟩:=trodAll_cons r0
  obtain ⟨v2,vs2,d2,ds2,p2,q2,rfl,rfl,rfl,h2,r2⟩:=trodAll_cons r1
  obtain ⟨rfl,rfl,rfl⟩:=trodAll_nil r2
  obtain rfl:args= #[v0,v1,v2]:=by cases args;simp_all
  obtain ⟨rfl,rfl⟩:=trodVars_none hV
  obtain ⟨a0,rfl,rfl,rfl,w0⟩:=open_int Tryz.underlying3 (hval 0 3 v0 rfl rfl) h0
  have b0: -9223372036854775808≤a0∧a0≤9223372036854775807:=by have:=w0;simp only [Lit.wf,Bool.and_eq_true,decide_eq_true_eq] at this;exact this
  have k1:=h1
  have lt1: ∀x∈p1,x.block<W.heap.size:=by obtain ⟨m,hm⟩:=k1;exact DataW.trod_lt m _ _ _ hm
  obtain ⟨a1,n1,c1,rows1,rfl,z1,l1,m1,s1,len1,has1,cell1⟩:=zz6 (P:=Tryz.prog) Tryz.underlying59 (one:=true) (fls:= [.i]) (e:=3) (by kernel_rfl:Fl.isB Tryz.prog .i 3=true) (by kernel_rfl) (by decide) (okWide_slice Tryz.underlying59 (hval 1 59 v1 rfl rfl)) h1 (weights_of hsz (j:=1) rfl rfl)
  have bb1:n1*8≤140737488351232:=s1
  obtain ⟨a2,rfl,rfl,rfl,w2⟩:=open_int Tryz.underlying3 (hval 2 3 v2 rfl rfl) h2
  have b2: -9223372036854775808≤a2∧a2≤9223372036854775807:=by have:=w2;simp only [Lit.wf,Bool.and_eq_true,decide_eq_true_eq] at this;exact this
  clear hA0 hval0 hsz0 hsz
  have key:=zn0 (w:=W) (rs:= [⟨3,a1.getD ⟨0,0,none⟩,1,true,rows1⟩]) (args:= [.int a0,.xsl a1 n1 c1,.int a2]) z4s zx0 (fun r hr=>by
   simp only [List.mem_cons,List.not_mem_nil,or_false] at hr
   subst hr
   exact ⟨⟨_,Go.Sym.Z.ty3_ok,rfl,.inl ⟨rfl,rfl,rfl⟩⟩,fun r hr=>(has1 r hr).2,cell1⟩) (fun r hr=>by
   simp only [List.mem_cons,List.not_mem_nil,or_false] at hr
   rcases hr with rfl<;>exact Nat.le_of_ble_eq_true rfl)
    rfl Tryz.func7 (c:=zji Tryz.f7) rfl (D:=pl7) (Nat.le_of_ble_eq_true rfl) ⟨trivial,z1,trivial,trivial⟩ (zkd W a0 b0 a1 n1 c1 rows1 len1 bb1 has1 a2 b2)
  have eargs:(y3 (fun _=>0) [.int a0,.xsl a1 n1 c1,.int a2]).toArray= #[.int .i64 a0,.slice a1 n1 c1,.int .i64 a2]:=by
    rfl
  rw [eargs] at key
  refine key.mono fun e W' ⟨he,bel⟩=>?_
  subst he
  exact ⟨_,rfl,_,_,_,[],_,[],hW',trodAll_mk1 (shut_bool Tryz.underlying4 _),(trodAll_cons_mk (shut_int Tryz.underlying3 w0) (trodAll_cons_mk (Below.trod laidOut (by kernel_rfl) (of_decide_eq_true (by kernel_rfl)) k1 bel lt1) (trodAll_cons_mk (shut_int Tryz.underlying3 w2) trodAll_mk0))),rfl,bel.frame _,fun h=>by cases h⟩
theorem over:Rows.streamRoundRow.holds Tryz.pinned (OpenSpec.ofChange Rows.streamRoundSpec):=
  OpenClaim.holds_of_wide 7 Tryz.f7 rfl rfl rfl rfl rfl rfl rfl ⟨rfl,rfl,rfl,rfl,rfl⟩ rfl rfl rfl rfl rfl (by kernel_rfl) Tryz.func7 (by kernel_rfl)
    (of_decide_eq_true (by kernel_rfl)) (by unfold Func.isWrapper;first|(rw [if_pos (by decide+kernel)];kernel_rfl)|(rw [if_neg (by decide+kernel)];exact ⟨rfl,rfl⟩))
    (fun os started H enc _=>lifted os started H enc)
end Go.Proofs.YtmmpgjcpielefaaGreat.streamRound
namespace Go.Proofs.YtmmpgjcpielefaaGreat
theorem streamRound_holds:Rows.StreamRoundSaid:=streamRound.over
end Go.Proofs.YtmmpgjcpielefaaGreat
