/-
  The law StreamTwins: for every input it returns true, and each argument reads behind the call as it read before. No condition beyond the statement's own.
-/
import Derived.Test.YtmmpgjcpielefaaGreatGLStreamTwins35
set_option linter.unusedSimpArgs false
set_option linter.unusedVariables false
namespace Go.Proofs.YtmmpgjcpielefaaGreat.streamTwins
open Go.ChangeShapes Go.WideShapes Go.ChangeAt Go.RowKit Go.Sym
open Go.ChangeMaps (open_string shut_string)
open Go.Sym.Z
theorem own:ownKnob Tryz.prog.godebug=none:=by kernel_rfl
theorem laidOut:laidOutB Tryz.prog=true:=by kernel_rfl
theorem bytes_back (x:ByteArray):(⟨x.data.toList.toArray⟩:ByteArray)=x:=by rw [Array.toArray_toList]
theorem weights_of {H:Type} {P:Program} {ts:List TypeId} {ds:List (DataW H)} (h:(DataW.weightsEach P ts ds).all (· ≤reachBytes)=true) {j:Nat} {t:TypeId} {d:DataW H} (ht:ts[j]?=some t) (hd:ds[j]?=some d): ∀n∈d.weights P t,n≤reachBytes:=fun n hn=>by simpa using List.all_eq_true.1 h _ (DataW.weights_mem_each ht hd n hn)
set_option maxRecDepth 100000 in
theorem lifted (os:Os) (started:os.Started) (H:Type) (enc:TypeId×Value→H):
    ReturnsInHanded {} Tryz.checked os 9 .any (Rows.streamTwinsSpec.pre6 enc Tryz.prog Tryz.f9 Rows.streamTwinsRow.domain false) (Rows.streamTwinsSpec.post enc Tryz.prog Tryz.f9 false true false false):=by
  refine returnsInHanded_of_change_sized (C:=Tryz.checked) own started (by kernel_rfl) Tryz.func9
    (ChangeSpec.witness6 (enc:=enc) (C:=Tryz.checked) false ⟨#[], #[.int .i64 0,.string ByteArray.empty,.slice none 0 0,.int .i64 0,.slice none 0 0],[]⟩ 8 (by kernel_rfl) (by kernel_rfl) (by kernel_rfl) (by kernel_rfl)) ?_
  intro W base args ds gs before hval0 hW hcnd hsz0 _
  have hsz:(DataW.weightsEach Tryz.prog (Tryz.f9.params.toList++Rows.streamTwinsSpec.plain.varTypes Tryz.prog) (ds++gs)).all (· ≤reachBytes)=true:=hsz0
  have hval: ∀(j:Nat) t v,Tryz.f9.params[j]?=some t→args[j]?=some v→Value.okWide Tryz.prog W .any base t v:=hval0
  have hW':=hW
  obtain ⟨p,q,hA0,hV,rfl,hfz,hnd⟩:=hW
  have hA:DataW.TrodAll enc Tryz.prog W 0 (fun _=>true) true Tryz.f9.params.toList args.toList ds p:=hA0
  rw [Tryz.params9] at hA hval hsz
  obtain ⟨v0,vs0,d0,ds0,p0,q0,hargs,rfl,rfl,h0,r0⟩:=trodAll_cons hA
  obtain ⟨v1,vs1,d1,ds1,p1,q1,rfl,rfl,rfl,h1,r1⟩:=trodAll_cons r0
  obtain ⟨v2,vs2,d2,ds2,p2,q2,rfl,rfl,rfl,h2,r2⟩:=trodAll_cons r1
  obtain ⟨v3,vs3,d3,ds3,p3,q3,rfl,rfl,rfl,h3,r3⟩:=trodAll_cons r2
  obtain ⟨v4,vs4,d4,ds4,p4,q4,rfl,rfl,rfl,h4,r4⟩:=trodAll_cons r3
  obtain ⟨rfl,rfl,rfl⟩:=trodAll_nil r4
  obtain rfl:args= #[v0,v1,v2,v3,v4]:=by cases args;simp_all
  obtain ⟨rfl,rfl⟩:=trodVars_none hV
  obtain ⟨a0,rfl,rfl,rfl,w0⟩:=open_int Tryz.underlying3 (hval 0 3 v0 rfl rfl) h0
  have b0: -9223372036854775808≤a0∧a0≤9223372036854775807:=by have:=w0;simp only [Lit.wf,Bool.and_eq_true,decide_eq_true_eq] at this;exact this
  obtain ⟨a1,rfl,rfl,rfl,y1⟩:=open_string Tryz.underlying9 (hval 1 9 v1 rfl rfl) h1
  have w1:a1.data.toList.length≤140737488351232:=sized_string hsz (j:=1) (t:=9) rfl rfl
  have k2:=h2
  have lt2: ∀x∈p2,x.block<W.heap.size:=by obtain ⟨m,hm⟩:=k2;exact DataW.trod_lt m _ _ _ hm
  obtain ⟨a2,n2,c2,rows2,rfl,z2,l2,m2,s2,len2,has2,cell2⟩:=zsx (P:=Tryz.prog) Tryz.underlying66 (one:=true) (fls:= [.s]) (e:=9) (by kernel_rfl:Fl.isB Tryz.prog .s 9=true) (by kernel_rfl) (by decide) (okWide_slice Tryz.underlying66 (hval 2 66 v2 rfl rfl)) h2 (weights_of hsz (j:=2) rfl rfl)
  have bb2:n2*16≤140737488351232:=s2
  obtain ⟨a3,rfl,rfl,rfl,w3⟩:=open_int Tryz.underlying3 (hval 3 3 v3 rfl rfl) h3
  have b3: -9223372036854775808≤a3∧a3≤9223372036854775807:=by have:=w3;simp only [Lit.wf,Bool.and_eq_true,decide_eq_true_eq] at this;exact this
  have k4:=h4
  have lt4: ∀x∈p4,x.block<W.heap.size:=by obtain ⟨m,hm⟩:=k4;exact DataW.trod_lt m _ _ _ hm
  obtain ⟨a4,n4,c4,rows4,rfl,z4,l4,m4,s4,len4,has4,cell4⟩:=zsx (P:=Tryz.prog) Tryz.underlying59 (one:=true) (fls:= [.i]) (e:=3) (by kernel_rfl:Fl.isB Tryz.prog .i 3=true) (by kernel_rfl) (by decide) (okWide_slice Tryz.underlying59 (hval 4 59 v4 rfl rfl)) h4 (weights_of hsz (j:=4) rfl rfl)
  have bb4:n4*8≤140737488351232:=s4
  clear hA0 hval0 hsz0 hsz
  have key:=zyb (w:=W) (rs:= [⟨9,a2.getD ⟨0,0,none⟩,1,true,rows2⟩,⟨3,a4.getD ⟨0,0,none⟩,1,true,rows4⟩]) (args:= [.int a0,.str a1.data.toList,.xsl a2 n2 c2,.int a3,.xsl a4 n4 c4]) z5p zye (fun r hr=>by
   simp only [List.mem_cons,List.not_mem_nil,or_false] at hr
   rcases hr with rfl|rfl
   ·exact ⟨⟨_,Go.Sym.Z.ty9_ok,rfl,.inl ⟨rfl,rfl,rfl⟩⟩,fun r hr=>(has2 r hr).2,cell2⟩
   ·exact ⟨⟨_,Go.Sym.Z.ty3_ok,rfl,.inl ⟨rfl,rfl,rfl⟩⟩,fun r hr=>(has4 r hr).2,cell4⟩) (fun r hr=>by
   simp only [List.mem_cons,List.not_mem_nil,or_false] at hr
   rcases hr with rfl|rfl<;>exact Nat.le_of_ble_eq_true rfl)
    rfl Tryz.func9 (c:=zuj Tryz.f9) rfl (D:=pl9) (Nat.le_of_ble_eq_true rfl) ⟨trivial,trivial,z2,trivial,z4,trivial⟩ (zkd W a0 b0 a1.data.toList w1 a2 n2 c2 rows2 len2 bb2 has2 a3 b3 a4 n4 c4 rows4 len4 bb4 has4)
  have eargs:(y4 (fun _=>0) [.int a0,.str a1.data.toList,.xsl a2 n2 c2,.int a3,.xsl a4 n4 c4]).toArray= #[.int .i64 a0,.string a1,.slice a2 n2 c2,.int .i64 a3,.slice a4 n4 c4]:=by
    simp only [y4,SV.den,bytes_back]
  rw [eargs] at key
  refine key.mono fun e W' ⟨he,bel⟩=>?_
  subst he
  exact ⟨_,rfl,_,_,_,[],_,[],hW',trodAll_mk1 (shut_bool Tryz.underlying4 _),(trodAll_cons_mk (shut_int Tryz.underlying3 w0) (trodAll_cons_mk (shut_string Tryz.underlying9 y1) (trodAll_cons_mk (Below.trod laidOut (by kernel_rfl) (of_decide_eq_true (by kernel_rfl)) k2 bel lt2) (trodAll_cons_mk (shut_int Tryz.underlying3 w3) (trodAll_cons_mk (Below.trod laidOut (by kernel_rfl) (of_decide_eq_true (by kernel_rfl)) k4 bel lt4) trodAll_mk0))))),rfl,bel.frame _,fun h=>by cases h⟩
theorem over:Rows.streamTwinsRow.holds Tryz.pinned (OpenSpec.ofChange Rows.streamTwinsSpec):=
  OpenClaim.holds_of_wide 9 Tryz.f9 rfl rfl rfl rfl rfl rfl rfl ⟨rfl,rfl,rfl,rfl,rfl⟩ rfl rfl rfl rfl rfl (by kernel_rfl) Tryz.func9 (by kernel_rfl)
    (of_decide_eq_true (by kernel_rfl)) (by unfold Func.isWrapper;first|(rw [if_pos (by decide+kernel)];kernel_rfl)|(rw [if_neg (by decide+kernel)];exact ⟨rfl,rfl⟩))
    (fun os started H enc _=>lifted os started H enc)
end Go.Proofs.YtmmpgjcpielefaaGreat.streamTwins
namespace Go.Proofs.YtmmpgjcpielefaaGreat
theorem streamTwins_holds:Rows.StreamTwinsSaid:=streamTwins.over
end Go.Proofs.YtmmpgjcpielefaaGreat
