/-
  The law RecClear: for every input it returns true, and each argument reads behind the call as it read before. No condition beyond the statement's own.
-/
import Derived.Test.YtmmpgjcpielefaaGLRecClear0
set_option linter.unusedSimpArgs false
set_option linter.unusedVariables false
namespace Go.Proofs.Ytmmpgjcpielefaa.recClear
open Go.ChangeShapes Go.WideShapes Go.ChangeAt Go.RowKit Go.Sym
open Go.ChangeMaps (open_string shut_string)
open Go.Sym.A
theorem own:ownKnob Try.prog.godebug=none:=by kernel_rfl
theorem laidOut:laidOutB Try.prog=true:=by kernel_rfl
theorem bytes_back (x:ByteArray):(⟨x.data.toList.toArray⟩:ByteArray)=x:=by rw [Array.toArray_toList]
theorem weights_of {H:Type} {P:Program} {ts:List TypeId} {ds:List (DataW H)} (h:(DataW.weightsEach P ts ds).all (· ≤reachBytes)=true) {j:Nat} {t:TypeId} {d:DataW H} (ht:ts[j]?=some t) (hd:ds[j]?=some d): ∀n∈d.weights P t,n≤reachBytes:=fun n hn=>by simpa using List.all_eq_true.1 h _ (DataW.weights_mem_each ht hd n hn)
set_option maxRecDepth 100000 in
theorem lifted (os:Os) (started:os.Started) (H:Type) (enc:TypeId×Value→H):
    ReturnsInHanded {} Try.checked os 10 .any (Rows.recClearSpec.pre6 enc Try.prog Try.f10 Rows.recClearRow.domain false) (Rows.recClearSpec.post enc Try.prog Try.f10 false true false false):=by
  refine returnsInHanded_of_change_sized (C:=Try.checked) own started (by kernel_rfl) Try.func10
    (ChangeSpec.witness6 (enc:=enc) (C:=Try.checked) false ⟨#[], #[.slice none 0 0,.slice none 0 0,.int .i64 0],[]⟩ 8 (by kernel_rfl) (by kernel_rfl) (by kernel_rfl) (by kernel_rfl)) ?_
  intro W base args ds gs before hval0 hW hcnd hsz0 _
  have hsz:(DataW.weightsEach Try.prog (Try.f10.params.toList++Rows.recClearSpec.plain.varTypes Try.prog) (ds++gs)).all (· ≤reachBytes)=true:=hsz0
  have hval: ∀(j:Nat) t v,Try.f10.params[j]?=some t→args[j]?=some v→Value.okWide Try.prog W .any base t v:=hval0
  have hW':=hW
  obtain ⟨p,q,hA0,hV,rfl,hfz,hnd⟩:=hW
  have hA:DataW.TrodAll enc Try.prog W 0 (fun _=>true) true Try.f10.params.toList args.toList ds p:=hA0
  rw [Try.params10] at hA hval hsz
  obtain ⟨v0,vs0,d0,ds0,p0,q0,hargs,rfl,rfl,h0,r0⟩:=trodAll_cons hA
  obtain ⟨v1,vs1,d1,ds1,p1,q1,rfl,rfl,rfl,h1,r1⟩:=trodAll_cons r0
  obtain ⟨v2,vs2,d2,ds2,p2,q2,rfl,rfl,rfl,h2,r2⟩:=trodAll_cons r1
  obtain ⟨rfl,rfl,rfl⟩:=trodAll_nil r2
  obtain rfl:args= #[v0,v1,v2]:=by cases args;simp_all
  obtain ⟨rfl,rfl⟩:=trodVars_none hV
  have k0:=h0
  have lt0: ∀x∈p0,x.block<W.heap.size:=by obtain ⟨m,hm⟩:=k0;exact DataW.trod_lt m _ _ _ hm
  obtain ⟨a0,n0,c0,rows0,rfl,z0,l0,m0,s0,len0,has0,cell0⟩:=zrg (P:=Try.prog) Try.underlying58 (one:=true) (fls:= [.i]) (e:=3) (by kernel_rfl:Fl.isB Try.prog .i 3=true) (by kernel_rfl) (by decide) (okWide_slice Try.underlying58 (hval 0 58 v0 rfl rfl)) h0 (weights_of hsz (j:=0) rfl rfl)
  have bb0:n0*8≤140737488351232:=s0
  have k1:=h1
  have lt1: ∀x∈p1,x.block<W.heap.size:=by obtain ⟨m,hm⟩:=k1;exact DataW.trod_lt m _ _ _ hm
  obtain ⟨a1,n1,c1,rows1,rfl,z1,l1,m1,s1,len1,has1,cell1⟩:=zrg (P:=Try.prog) Try.underlying59 (one:=true) (fls:= [.s]) (e:=9) (by kernel_rfl:Fl.isB Try.prog .s 9=true) (by kernel_rfl) (by decide) (okWide_slice Try.underlying59 (hval 1 59 v1 rfl rfl)) h1 (weights_of hsz (j:=1) rfl rfl)
  have bb1:n1*16≤140737488351232:=s1
  obtain ⟨a2,rfl,rfl,rfl,w2⟩:=open_int Try.underlying3 (hval 2 3 v2 rfl rfl) h2
  have b2: -9223372036854775808≤a2∧a2≤9223372036854775807:=by have:=w2;simp only [Lit.wf,Bool.and_eq_true,decide_eq_true_eq] at this;exact this
  clear hA0 hval0 hsz0 hsz
  have key:=zf2 (w:=W) (rs:= [⟨3,a0.getD ⟨0,0,none⟩,1,true,rows0⟩,⟨9,a1.getD ⟨0,0,none⟩,1,true,rows1⟩]) (args:= [.xsl a0 n0 c0,.xsl a1 n1 c1,.int a2]) zvu zfz (fun r hr=>by
   simp only [List.mem_cons,List.not_mem_nil,or_false] at hr
   rcases hr with rfl|rfl
   ·exact ⟨⟨_,Go.Sym.A.ty3_ok,rfl,.inl ⟨rfl,rfl,rfl⟩⟩,fun r hr=>(has0 r hr).2,cell0⟩
   ·exact ⟨⟨_,Go.Sym.A.ty9_ok,rfl,.inl ⟨rfl,rfl,rfl⟩⟩,fun r hr=>(has1 r hr).2,cell1⟩) (fun r hr=>by
   simp only [List.mem_cons,List.not_mem_nil,or_false] at hr
   rcases hr with rfl|rfl<;>exact Nat.le_of_ble_eq_true rfl)
    rfl Try.func10 (c:=zbz Try.f10) rfl (D:=z52) (Nat.le_of_ble_eq_true rfl) ⟨z0,z1,trivial,trivial⟩ (zpu W a0 n0 c0 rows0 len0 bb0 has0 a1 n1 c1 rows1 len1 bb1 has1 a2 b2)
  have eargs:(yu (fun _=>0) [.xsl a0 n0 c0,.xsl a1 n1 c1,.int a2]).toArray= #[.slice a0 n0 c0,.slice a1 n1 c1,.int .i64 a2]:=by
    rfl
  rw [eargs] at key
  refine key.mono fun e W' ⟨he,bel⟩=>?_
  subst he
  exact ⟨_,rfl,_,_,_,[],_,[],hW',trodAll_mk1 (shut_bool Try.underlying4 _),(trodAll_cons_mk (Below.trod laidOut (by kernel_rfl) (of_decide_eq_true (by kernel_rfl)) k0 bel lt0) (trodAll_cons_mk (Below.trod laidOut (by kernel_rfl) (of_decide_eq_true (by kernel_rfl)) k1 bel lt1) (trodAll_cons_mk (shut_int Try.underlying3 w2) trodAll_mk0))),rfl,bel.frame _,fun h=>by cases h⟩
theorem over:Rows.recClearRow.holds Try.pinned (OpenSpec.ofChange Rows.recClearSpec):=
  OpenClaim.holds_of_wide 10 Try.f10 rfl rfl rfl rfl rfl rfl rfl ⟨rfl,rfl,rfl,rfl,rfl⟩ rfl rfl rfl rfl rfl (by kernel_rfl) Try.func10 (by kernel_rfl)
    (of_decide_eq_true (by kernel_rfl)) (by unfold Func.isWrapper;first|(rw [if_pos (by decide+kernel)];kernel_rfl)|(rw [if_neg (by decide+kernel)];exact ⟨rfl,rfl⟩))
    (fun os started H enc _=>lifted os started H enc)
end Go.Proofs.Ytmmpgjcpielefaa.recClear
namespace Go.Proofs.Ytmmpgjcpielefaa
theorem recClear_holds:Rows.RecClearSaid:=recClear.over
end Go.Proofs.Ytmmpgjcpielefaa
