/-
  The law RingTurns: for every input it returns true, and each argument reads behind the call as it read before. No condition beyond the statement's own.
-/
import Derived.Test.YtofhjelmgekofaaT11
namespace Go.Proofs.Ytofhjelmgekofaa.ringTurns
open Go.ChangeShapes Go.WideShapes Go.ChangeAt Go.RowKit Go.Sym
open Go.ChangeMaps (open_string shut_string)
open Go.Sym.R
theorem own : ownKnob Try.prog.godebug = none := by kernel_rfl
theorem laidOut : laidOutB Try.prog = true := by kernel_rfl
theorem bytes_back (x : ByteArray) : (⟨x.data.toList.toArray⟩ : ByteArray) = x := by rw [Array.toArray_toList]
theorem weights_of {H : Type} {P : Program} {ts : List TypeId} {ds : List (DataW H)} (h : (DataW.weightsEach P ts ds).all (· ≤ reachBytes) = true) {j : Nat} {t : TypeId} {d : DataW H} (ht : ts[j]? = some t) (hd : ds[j]? = some d) : ∀ n ∈ d.weights P t, n ≤ reachBytes := fun n hn => by simpa using List.all_eq_true.1 h _ (DataW.weights_mem_each ht hd n hn)
set_option maxRecDepth 100000 in
theorem lifted (os : Os) (started : os.Started) (H : Type) (enc : TypeId × Value → H) :
    ReturnsInHanded {} Try.checked os 4 .any (Rows.ringTurnsSpec.pre6 enc Try.prog Try.f4 Rows.ringTurnsRow.domain false) (Rows.ringTurnsSpec.post enc Try.prog Try.f4 false true false false) := by
  refine returnsInHanded_of_change_sized (C := Try.checked) own started (by kernel_rfl) Try.func4
    (ChangeSpec.witness6 (enc := enc) (C := Try.checked) false ⟨#[], #[.int .i64 0, .slice none 0 0, .slice none 0 0], []⟩ 8 (by kernel_rfl) (by kernel_rfl) (by kernel_rfl) (by kernel_rfl)) ?_
  intro W base args ds gs before hval0 hW hcnd hsz0 _
  have hsz : (DataW.weightsEach Try.prog (Try.f4.params.toList ++ Rows.ringTurnsSpec.plain.varTypes Try.prog) (ds ++ gs)).all (· ≤ reachBytes) = true := hsz0
  have hval : ∀ (j : Nat) t v, Try.f4.params[j]? = some t → args[j]? = some v → Value.okWide Try.prog W .any base t v := hval0
  have hW' := hW
  obtain ⟨p, q, hA0, hV, rfl, hfz, hnd⟩ := hW
  have hA : DataW.TrodAll enc Try.prog W 0 (fun _ => true) true Try.f4.params.toList args.toList ds p := hA0
  rw [Try.params4] at hA hval hsz
  obtain ⟨v0, vs0, d0, ds0, p0, q0, hargs, rfl, rfl, h0, r0⟩ := trodAll_cons hA
  obtain ⟨v1, vs1, d1, ds1, p1, q1, rfl, rfl, rfl, h1, r1⟩ := trodAll_cons r0
  obtain ⟨v2, vs2, d2, ds2, p2, q2, rfl, rfl, rfl, h2, r2⟩ := trodAll_cons r1
  obtain ⟨rfl, rfl, rfl⟩ := trodAll_nil r2
  obtain rfl : args = #[v0, v1, v2] := by cases args; simp_all
  obtain ⟨rfl, rfl⟩ := trodVars_none hV
  obtain ⟨a0, rfl, rfl, rfl, w0⟩ := open_int Try.underlying3 (hval 0 3 v0 rfl rfl) h0
  have b0 : -9223372036854775808 ≤ a0 ∧ a0 ≤ 9223372036854775807 := by have := w0; simp only [Lit.wf, Bool.and_eq_true, decide_eq_true_eq] at this; exact this
  have k1 := h1
  have lt1 : ∀ x ∈ p1, x.block < W.heap.size := by obtain ⟨m, hm⟩ := k1; exact DataW.trod_lt m _ _ _ hm
  obtain ⟨a1, n1, c1, rows1, rfl, z1, l1, m1, s1, len1, has1, cell1⟩ := open_row (P := Try.prog) Try.underlying41 (one := true) (fls := [.s]) (e := 9) (by kernel_rfl : Fl.isB Try.prog .s 9 = true) (by kernel_rfl) (by decide) (okWide_slice Try.underlying41 (hval 1 41 v1 rfl rfl)) h1 (weights_of hsz (j := 1) rfl rfl)
  have bb1 : n1 * 16 ≤ 140737488351232 := s1
  have k2 := h2
  have lt2 : ∀ x ∈ p2, x.block < W.heap.size := by obtain ⟨m, hm⟩ := k2; exact DataW.trod_lt m _ _ _ hm
  obtain ⟨a2, n2, c2, rows2, rfl, z2, l2, m2, s2, len2, has2, cell2⟩ := open_row (P := Try.prog) Try.underlying42 (one := true) (fls := [.i]) (e := 3) (by kernel_rfl : Fl.isB Try.prog .i 3 = true) (by kernel_rfl) (by decide) (okWide_slice Try.underlying42 (hval 2 42 v2 rfl rfl)) h2 (weights_of hsz (j := 2) rfl rfl)
  have bb2 : n2 * 8 ≤ 140737488351232 := s2
  clear hA0 hval0 hsz0 hsz
  have key := law_calls (w := W) (rs := [⟨9, a1.getD ⟨0, 0, none⟩, 1, true, rows1⟩, ⟨3, a2.getD ⟨0, 0, none⟩, 1, true, rows2⟩]) (args := [.int a0, .xsl a1 n1 c1, .xsl a2 n2 c2]) tysB_ok ringFnA_ok (fun r hr => by
      simp only [List.mem_cons, List.not_mem_nil, or_false] at hr
      rcases hr with rfl | rfl
      · exact ⟨⟨_, Go.Sym.R.ty9_ok, rfl, .inl ⟨rfl, rfl, rfl⟩⟩, fun r hr => (has1 r hr).2, cell1⟩
      · exact ⟨⟨_, Go.Sym.R.ty3_ok, rfl, .inl ⟨rfl, rfl, rfl⟩⟩, fun r hr => (has2 r hr).2, cell2⟩) (fun r hr => by
      simp only [List.mem_cons, List.not_mem_nil, or_false] at hr
      rcases hr with rfl | rfl <;> exact Nat.le_of_ble_eq_true rfl)
    rfl Try.func4 (c := codeOf Try.f4) rfl (D := pl4) (Nat.le_of_ble_eq_true rfl) ⟨trivial, z1, z2, trivial⟩ (ringTurns_end W a0 b0 a1 n1 c1 rows1 len1 bb1 has1 a2 n2 c2 rows2 len2 bb2 has2)
  have eargs : (denL (fun _ => 0) [.int a0, .xsl a1 n1 c1, .xsl a2 n2 c2]).toArray = #[.int .i64 a0, .slice a1 n1 c1, .slice a2 n2 c2] := by
    rfl
  rw [eargs] at key
  refine key.mono fun e W' ⟨he, bel⟩ => ?_
  subst he
  exact ⟨_, rfl, _, _, _, [], _, [], hW', trodAll_mk1 (shut_bool Try.underlying4 _), (trodAll_cons_mk (shut_int Try.underlying3 w0) (trodAll_cons_mk (Below.trod laidOut (by kernel_rfl) (of_decide_eq_true (by kernel_rfl)) k1 bel lt1) (trodAll_cons_mk (Below.trod laidOut (by kernel_rfl) (of_decide_eq_true (by kernel_rfl)) k2 bel lt2) trodAll_mk0))), rfl, bel.frame _, fun h => by cases h⟩
theorem over : Rows.ringTurnsRow.holds Try.pinned (OpenSpec.ofChange Rows.ringTurnsSpec) :=
  OpenClaim.holds_of_wide 4 Try.f4 rfl rfl rfl rfl rfl rfl rfl ⟨rfl, rfl, rfl, rfl, rfl⟩ rfl rfl rfl rfl rfl (by kernel_rfl) Try.func4 (by kernel_rfl)
    (of_decide_eq_true (by kernel_rfl)) (by unfold Func.isWrapper; first | (rw [if_pos (by decide +kernel)]; kernel_rfl) | (rw [if_neg (by decide +kernel)]; exact ⟨rfl, rfl⟩))
    (fun os started H enc _ => lifted os started H enc)
end Go.Proofs.Ytofhjelmgekofaa.ringTurns
namespace Go.Proofs.Ytofhjelmgekofaa
/-- The statement. -/
theorem ringTurns_holds : Rows.RingTurnsSaid := ringTurns.over
end Go.Proofs.Ytofhjelmgekofaa
