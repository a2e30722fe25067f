/-
  No cell of these rows narrows 'for every input' (looked for: loops, veiled, ifaces, maps, wideKeys, modest, calm, conditions, laid).
  DERIVED. THE GIVEN ROWS OF THIS SEAT. 11 by the template 'for every input the law returns true; each argument reads behind the call as it read before'; 0 by the template 'total and deterministic' (their statements: YtofhjelmgekofaaTotals.lean).
  GIVEN WITH THE SEED: the statements are not yours to turn. If you find one false, say at which input.
  Laid BY PROGRAM, IN A SANDBOX (cutbox-rows.mjs): the forced cells as the released guide's own fill.sh prints them over the translation a2c2414bfc3b75d9… (all of the seat's roots in one cut). By AI agents, Wed Nov 11 2026. No macro, syntax, notation, axiom, sorry.
-/
import Derived.Test.YtofhjelmgekofaaChecked
import GoSem.Claim
import GoSem.ClaimJoined
import GoSem.ClaimMapViews
import Derived.JoinedTies
import Derived.KernelRfl
namespace Go.Proofs.Ytofhjelmgekofaa
/- THE CELL 'sum', in the pinned program and in every row, IS THE sha256 OF THE DUMP (.gsa) THAT YtofhjelmgekofaaProg.lean LOADS. Nothing in Lean hashes anything: it is a label: what it is worth is what the hold of that sum in a sandbox is worth. -/
noncomputable def Try.pinned : Pinned := { name := "ytofhjelmgekofaa", sum := "a2c2414bfc3b75d9f5a0178569490ea17f31497a20e46e3b67a020c03bf9190b", checked := Try.checked }
namespace Rows
def none {H : Type} : Left H := { results := [], args := [] }

/-- 'halberdlaw22.RingActs': WHATEVER THE INPUT: true; the input reads as it did. -/
def ringActsSpec : ChangeSpec := { name := "ringActs", fn := fun _ => fun
  | [d1, d2] => { results := [.lit (.bool true)], args := [d1, d2] }
  | _ => none }
def ringActsRow : OpenClaim := { program := "ytofhjelmgekofaa", sum := "a2c2414bfc3b75d9f5a0178569490ea17f31497a20e46e3b67a020c03bf9190b", func := "halberd/halberdlaw22.RingActs", spec := "ringActs", apart := false }
def RingActsSaid : Prop := ringActsRow.holds Try.pinned (OpenSpec.ofChange ringActsSpec)

/-- ITS FALSE NEIGHBOUR: 'it returns false'. Refute it at one input. -/
def ringActsWrong : ChangeSpec := { name := "ringActs", fn := fun _ => fun
  | [d1, d2] => { results := [.lit (.bool false)], args := [d1, d2] }
  | _ => none }
def RingActsWrongFalsely : Prop := ringActsRow.holds Try.pinned (OpenSpec.ofChange ringActsWrong)

/-- 'halberdlaw22.RingTurns': WHATEVER THE INPUT: true; the input reads as it did. -/
def ringTurnsSpec : ChangeSpec := { name := "ringTurns", fn := fun _ => fun
  | [d1, d2, d3] => { results := [.lit (.bool true)], args := [d1, d2, d3] }
  | _ => none }
def ringTurnsRow : OpenClaim := { program := "ytofhjelmgekofaa", sum := "a2c2414bfc3b75d9f5a0178569490ea17f31497a20e46e3b67a020c03bf9190b", func := "halberd/halberdlaw22.RingTurns", spec := "ringTurns", apart := false }
def RingTurnsSaid : Prop := ringTurnsRow.holds Try.pinned (OpenSpec.ofChange ringTurnsSpec)

/-- ITS FALSE NEIGHBOUR: 'it returns false'. Refute it at one input. -/
def ringTurnsWrong : ChangeSpec := { name := "ringTurns", fn := fun _ => fun
  | [d1, d2, d3] => { results := [.lit (.bool false)], args := [d1, d2, d3] }
  | _ => none }
def RingTurnsWrongFalsely : Prop := ringTurnsRow.holds Try.pinned (OpenSpec.ofChange ringTurnsWrong)

/-- 'halberdlaw9.Nums': WHATEVER THE INPUT: true; the input reads as it did. -/
def numsSpec : ChangeSpec := { name := "nums", fn := fun _ => fun
  | [d1, d2, d3] => { results := [.lit (.bool true)], args := [d1, d2, d3] }
  | _ => none }
def numsRow : OpenClaim := { program := "ytofhjelmgekofaa", sum := "a2c2414bfc3b75d9f5a0178569490ea17f31497a20e46e3b67a020c03bf9190b", func := "halberd/halberdlaw9.Nums", spec := "nums", inPlace := ["math/bits.Add64", "math/bits.Sub64"], unfollowed := true, recurses := true, apart := false }
def NumsSaid : Prop := numsRow.holds Try.pinned (OpenSpec.ofChange numsSpec)

/-- ITS FALSE NEIGHBOUR: 'it returns false'. Refute it at one input. -/
def numsWrong : ChangeSpec := { name := "nums", fn := fun _ => fun
  | [d1, d2, d3] => { results := [.lit (.bool false)], args := [d1, d2, d3] }
  | _ => none }
def NumsWrongFalsely : Prop := numsRow.holds Try.pinned (OpenSpec.ofChange numsWrong)

/-- 'halberdlaw9.NumRules': WHATEVER THE INPUT: true; the input reads as it did. -/
def numRulesSpec : ChangeSpec := { name := "numRules", fn := fun _ => fun
  | [d1, d2, d3, d4] => { results := [.lit (.bool true)], args := [d1, d2, d3, d4] }
  | _ => none }
def numRulesRow : OpenClaim := { program := "ytofhjelmgekofaa", sum := "a2c2414bfc3b75d9f5a0178569490ea17f31497a20e46e3b67a020c03bf9190b", func := "halberd/halberdlaw9.NumRules", spec := "numRules", inPlace := ["math/bits.Add64", "math/bits.Sub64"], unfollowed := true, recurses := true, apart := false }
def NumRulesSaid : Prop := numRulesRow.holds Try.pinned (OpenSpec.ofChange numRulesSpec)

/-- ITS FALSE NEIGHBOUR: 'it returns false'. Refute it at one input. -/
def numRulesWrong : ChangeSpec := { name := "numRules", fn := fun _ => fun
  | [d1, d2, d3, d4] => { results := [.lit (.bool false)], args := [d1, d2, d3, d4] }
  | _ => none }
def NumRulesWrongFalsely : Prop := numRulesRow.holds Try.pinned (OpenSpec.ofChange numRulesWrong)

/-- 'halberdlaw9.NumTurns': WHATEVER THE INPUT: true; the input reads as it did. -/
def numTurnsSpec : ChangeSpec := { name := "numTurns", fn := fun _ => fun
  | [d1, d2, d3] => { results := [.lit (.bool true)], args := [d1, d2, d3] }
  | _ => none }
def numTurnsRow : OpenClaim := { program := "ytofhjelmgekofaa", sum := "a2c2414bfc3b75d9f5a0178569490ea17f31497a20e46e3b67a020c03bf9190b", func := "halberd/halberdlaw9.NumTurns", spec := "numTurns", inPlace := ["math/bits.Add64", "math/bits.Sub64"], unfollowed := true, recurses := true, apart := false }
def NumTurnsSaid : Prop := numTurnsRow.holds Try.pinned (OpenSpec.ofChange numTurnsSpec)

/-- ITS FALSE NEIGHBOUR: 'it returns false'. Refute it at one input. -/
def numTurnsWrong : ChangeSpec := { name := "numTurns", fn := fun _ => fun
  | [d1, d2, d3] => { results := [.lit (.bool false)], args := [d1, d2, d3] }
  | _ => none }
def NumTurnsWrongFalsely : Prop := numTurnsRow.holds Try.pinned (OpenSpec.ofChange numTurnsWrong)

/-- 'halberdlaw9.NumEnds': WHATEVER THE INPUT: true; the input reads as it did. -/
def numEndsSpec : ChangeSpec := { name := "numEnds", fn := fun _ => fun
  | [d1, d2, d3] => { results := [.lit (.bool true)], args := [d1, d2, d3] }
  | _ => none }
def numEndsRow : OpenClaim := { program := "ytofhjelmgekofaa", sum := "a2c2414bfc3b75d9f5a0178569490ea17f31497a20e46e3b67a020c03bf9190b", func := "halberd/halberdlaw9.NumEnds", spec := "numEnds", inPlace := ["math/bits.Add64", "math/bits.Sub64"], unfollowed := true, recurses := true, apart := false }
def NumEndsSaid : Prop := numEndsRow.holds Try.pinned (OpenSpec.ofChange numEndsSpec)

/-- ITS FALSE NEIGHBOUR: 'it returns false'. Refute it at one input. -/
def numEndsWrong : ChangeSpec := { name := "numEnds", fn := fun _ => fun
  | [d1, d2, d3] => { results := [.lit (.bool false)], args := [d1, d2, d3] }
  | _ => none }
def NumEndsWrongFalsely : Prop := numEndsRow.holds Try.pinned (OpenSpec.ofChange numEndsWrong)

/-- 'halberdlaw9.NumFolds': WHATEVER THE INPUT: true; the input reads as it did. -/
def numFoldsSpec : ChangeSpec := { name := "numFolds", fn := fun _ => fun
  | [d1, d2, d3] => { results := [.lit (.bool true)], args := [d1, d2, d3] }
  | _ => none }
def numFoldsRow : OpenClaim := { program := "ytofhjelmgekofaa", sum := "a2c2414bfc3b75d9f5a0178569490ea17f31497a20e46e3b67a020c03bf9190b", func := "halberd/halberdlaw9.NumFolds", spec := "numFolds", inPlace := ["math/bits.Add64", "math/bits.Sub64"], unfollowed := true, recurses := true, apart := false }
def NumFoldsSaid : Prop := numFoldsRow.holds Try.pinned (OpenSpec.ofChange numFoldsSpec)

/-- ITS FALSE NEIGHBOUR: 'it returns false'. Refute it at one input. -/
def numFoldsWrong : ChangeSpec := { name := "numFolds", fn := fun _ => fun
  | [d1, d2, d3] => { results := [.lit (.bool false)], args := [d1, d2, d3] }
  | _ => none }
def NumFoldsWrongFalsely : Prop := numFoldsRow.holds Try.pinned (OpenSpec.ofChange numFoldsWrong)

/-- 'halberdlaw10.Xcurves': WHATEVER THE INPUT: true; the input reads as it did. -/
def xcurvesSpec : ChangeSpec := { name := "xcurves", fn := fun _ => fun
  | [d1, d2] => { results := [.lit (.bool true)], args := [d1, d2] }
  | _ => none }
def xcurvesRow : OpenClaim := { program := "ytofhjelmgekofaa", sum := "a2c2414bfc3b75d9f5a0178569490ea17f31497a20e46e3b67a020c03bf9190b", func := "halberd/halberdlaw10.Xcurves", spec := "xcurves", inPlace := ["math/bits.Add64", "math/bits.Sub64"], apart := false }
def XcurvesSaid : Prop := xcurvesRow.holds Try.pinned (OpenSpec.ofChange xcurvesSpec)

/-- ITS FALSE NEIGHBOUR: 'it returns false'. Refute it at one input. -/
def xcurvesWrong : ChangeSpec := { name := "xcurves", fn := fun _ => fun
  | [d1, d2] => { results := [.lit (.bool false)], args := [d1, d2] }
  | _ => none }
def XcurvesWrongFalsely : Prop := xcurvesRow.holds Try.pinned (OpenSpec.ofChange xcurvesWrong)

/-- 'halberdlaw10.XcurveAgrees': WHATEVER THE INPUT: true; the input reads as it did. -/
def xcurveAgreesSpec : ChangeSpec := { name := "xcurveAgrees", fn := fun _ => fun
  | [d1, d2, d3] => { results := [.lit (.bool true)], args := [d1, d2, d3] }
  | _ => none }
def xcurveAgreesRow : OpenClaim := { program := "ytofhjelmgekofaa", sum := "a2c2414bfc3b75d9f5a0178569490ea17f31497a20e46e3b67a020c03bf9190b", func := "halberd/halberdlaw10.XcurveAgrees", spec := "xcurveAgrees", inPlace := ["math/bits.Add64", "math/bits.Sub64"], apart := false }
def XcurveAgreesSaid : Prop := xcurveAgreesRow.holds Try.pinned (OpenSpec.ofChange xcurveAgreesSpec)

/-- ITS FALSE NEIGHBOUR: 'it returns false'. Refute it at one input. -/
def xcurveAgreesWrong : ChangeSpec := { name := "xcurveAgrees", fn := fun _ => fun
  | [d1, d2, d3] => { results := [.lit (.bool false)], args := [d1, d2, d3] }
  | _ => none }
def XcurveAgreesWrongFalsely : Prop := xcurveAgreesRow.holds Try.pinned (OpenSpec.ofChange xcurveAgreesWrong)

/-- 'halberdlaw10.XcurveTop': WHATEVER THE INPUT: true; the input reads as it did. -/
def xcurveTopSpec : ChangeSpec := { name := "xcurveTop", fn := fun _ => fun
  | [d1, d2, d3] => { results := [.lit (.bool true)], args := [d1, d2, d3] }
  | _ => none }
def xcurveTopRow : OpenClaim := { program := "ytofhjelmgekofaa", sum := "a2c2414bfc3b75d9f5a0178569490ea17f31497a20e46e3b67a020c03bf9190b", func := "halberd/halberdlaw10.XcurveTop", spec := "xcurveTop", inPlace := ["math/bits.Add64", "math/bits.Sub64"], apart := false }
def XcurveTopSaid : Prop := xcurveTopRow.holds Try.pinned (OpenSpec.ofChange xcurveTopSpec)

/-- ITS FALSE NEIGHBOUR: 'it returns false'. Refute it at one input. -/
def xcurveTopWrong : ChangeSpec := { name := "xcurveTop", fn := fun _ => fun
  | [d1, d2, d3] => { results := [.lit (.bool false)], args := [d1, d2, d3] }
  | _ => none }
def XcurveTopWrongFalsely : Prop := xcurveTopRow.holds Try.pinned (OpenSpec.ofChange xcurveTopWrong)

/-- 'halberdlaw10.XcurveReduced': WHATEVER THE INPUT: true; the input reads as it did. -/
def xcurveReducedSpec : ChangeSpec := { name := "xcurveReduced", fn := fun _ => fun
  | [d1, d2] => { results := [.lit (.bool true)], args := [d1, d2] }
  | _ => none }
def xcurveReducedRow : OpenClaim := { program := "ytofhjelmgekofaa", sum := "a2c2414bfc3b75d9f5a0178569490ea17f31497a20e46e3b67a020c03bf9190b", func := "halberd/halberdlaw10.XcurveReduced", spec := "xcurveReduced", inPlace := ["math/bits.Add64", "math/bits.Sub64"], apart := false }
def XcurveReducedSaid : Prop := xcurveReducedRow.holds Try.pinned (OpenSpec.ofChange xcurveReducedSpec)

/-- ITS FALSE NEIGHBOUR: 'it returns false'. Refute it at one input. -/
def xcurveReducedWrong : ChangeSpec := { name := "xcurveReduced", fn := fun _ => fun
  | [d1, d2] => { results := [.lit (.bool false)], args := [d1, d2] }
  | _ => none }
def XcurveReducedWrongFalsely : Prop := xcurveReducedRow.holds Try.pinned (OpenSpec.ofChange xcurveReducedWrong)

/- THE SECOND FORM. 'bulk': how many values and letters a reading holds, each counted each time it is reached (what is shared counts as often as it is met; a slice's spare places count too). A statement '..UptoSaid' is the law's where the arguments, and the package variables that the reading takes, are together of bulk at most 1048576: NARROWER than '..Said'. Prove '..Said' where nothing that the law and all that it calls make is longer than what came in: it says more and counts as full. Else prove '..UptoSaid'. A law counts once. -/
mutual
def uptoBulk {H : Type} : DataW H → Nat
  | .lit (.string bytes) => bytes.length + 1
  | .lit _ => 1
  | .nil => 1
  | .ptr d => uptoBulk d + 1
  | .slice elems spare => uptoBulkAll elems + uptoBulkAll spare + 1
  | .agg parts => uptoBulkAll parts + 1
  | .iface _ d => uptoBulk d + 1
  | .map entries => uptoBulkEntries entries + 1
  | .held _ => 1
def uptoBulkAll {H : Type} : List (DataW H) → Nat
  | [] => 0
  | d :: r => uptoBulk d + uptoBulkAll r
def uptoBulkEntries {H : Type} : List (Lit × DataW H) → Nat
  | [] => 0
  | x :: r => uptoBulkEntry x + uptoBulkEntries r
def uptoBulkEntry {H : Type} : Lit × DataW H → Nat
  | (.string bytes, d) => bytes.length + uptoBulk d + 1
  | (_, d) => uptoBulk d + 1
 end
def uptoSmall : (H : Type) → List (DataW H) → Bool := fun _ ds => decide (uptoBulkAll ds ≤ 1048576)
def OpenSpec.upto (s : _root_.Go.ChangeSpec) : _root_.Go.OpenSpec := { _root_.Go.OpenSpec.ofChange s with cond := some uptoSmall }

/-- 'halberdlaw22.RingActs', WHERE WHAT IT READS IS OF BULK AT MOST 1048576: true; the input reads as it did. -/
def ringActsUptoRow : OpenClaim := { program := "ytofhjelmgekofaa", sum := "a2c2414bfc3b75d9f5a0178569490ea17f31497a20e46e3b67a020c03bf9190b", func := "halberd/halberdlaw22.RingActs", spec := "ringActs", apart := false, narrowed := true }
def RingActsUptoSaid : Prop := ringActsUptoRow.holds Try.pinned (OpenSpec.upto ringActsSpec)

/-- 'halberdlaw22.RingTurns', WHERE WHAT IT READS IS OF BULK AT MOST 1048576: true; the input reads as it did. -/
def ringTurnsUptoRow : OpenClaim := { program := "ytofhjelmgekofaa", sum := "a2c2414bfc3b75d9f5a0178569490ea17f31497a20e46e3b67a020c03bf9190b", func := "halberd/halberdlaw22.RingTurns", spec := "ringTurns", apart := false, narrowed := true }
def RingTurnsUptoSaid : Prop := ringTurnsUptoRow.holds Try.pinned (OpenSpec.upto ringTurnsSpec)

/-- 'halberdlaw9.Nums', WHERE WHAT IT READS IS OF BULK AT MOST 1048576: true; the input reads as it did. -/
def numsUptoRow : OpenClaim := { program := "ytofhjelmgekofaa", sum := "a2c2414bfc3b75d9f5a0178569490ea17f31497a20e46e3b67a020c03bf9190b", func := "halberd/halberdlaw9.Nums", spec := "nums", inPlace := ["math/bits.Add64", "math/bits.Sub64"], unfollowed := true, recurses := true, apart := false, narrowed := true }
def NumsUptoSaid : Prop := numsUptoRow.holds Try.pinned (OpenSpec.upto numsSpec)

/-- 'halberdlaw9.NumRules', WHERE WHAT IT READS IS OF BULK AT MOST 1048576: true; the input reads as it did. -/
def numRulesUptoRow : OpenClaim := { program := "ytofhjelmgekofaa", sum := "a2c2414bfc3b75d9f5a0178569490ea17f31497a20e46e3b67a020c03bf9190b", func := "halberd/halberdlaw9.NumRules", spec := "numRules", inPlace := ["math/bits.Add64", "math/bits.Sub64"], unfollowed := true, recurses := true, apart := false, narrowed := true }
def NumRulesUptoSaid : Prop := numRulesUptoRow.holds Try.pinned (OpenSpec.upto numRulesSpec)

/-- 'halberdlaw9.NumTurns', WHERE WHAT IT READS IS OF BULK AT MOST 1048576: true; the input reads as it did. -/
def numTurnsUptoRow : OpenClaim := { program := "ytofhjelmgekofaa", sum := "a2c2414bfc3b75d9f5a0178569490ea17f31497a20e46e3b67a020c03bf9190b", func := "halberd/halberdlaw9.NumTurns", spec := "numTurns", inPlace := ["math/bits.Add64", "math/bits.Sub64"], unfollowed := true, recurses := true, apart := false, narrowed := true }
def NumTurnsUptoSaid : Prop := numTurnsUptoRow.holds Try.pinned (OpenSpec.upto numTurnsSpec)

/-- 'halberdlaw9.NumEnds', WHERE WHAT IT READS IS OF BULK AT MOST 1048576: true; the input reads as it did. -/
def numEndsUptoRow : OpenClaim := { program := "ytofhjelmgekofaa", sum := "a2c2414bfc3b75d9f5a0178569490ea17f31497a20e46e3b67a020c03bf9190b", func := "halberd/halberdlaw9.NumEnds", spec := "numEnds", inPlace := ["math/bits.Add64", "math/bits.Sub64"], unfollowed := true, recurses := true, apart := false, narrowed := true }
def NumEndsUptoSaid : Prop := numEndsUptoRow.holds Try.pinned (OpenSpec.upto numEndsSpec)

/-- 'halberdlaw9.NumFolds', WHERE WHAT IT READS IS OF BULK AT MOST 1048576: true; the input reads as it did. -/
def numFoldsUptoRow : OpenClaim := { program := "ytofhjelmgekofaa", sum := "a2c2414bfc3b75d9f5a0178569490ea17f31497a20e46e3b67a020c03bf9190b", func := "halberd/halberdlaw9.NumFolds", spec := "numFolds", inPlace := ["math/bits.Add64", "math/bits.Sub64"], unfollowed := true, recurses := true, apart := false, narrowed := true }
def NumFoldsUptoSaid : Prop := numFoldsUptoRow.holds Try.pinned (OpenSpec.upto numFoldsSpec)

/-- 'halberdlaw10.Xcurves', WHERE WHAT IT READS IS OF BULK AT MOST 1048576: true; the input reads as it did. -/
def xcurvesUptoRow : OpenClaim := { program := "ytofhjelmgekofaa", sum := "a2c2414bfc3b75d9f5a0178569490ea17f31497a20e46e3b67a020c03bf9190b", func := "halberd/halberdlaw10.Xcurves", spec := "xcurves", inPlace := ["math/bits.Add64", "math/bits.Sub64"], apart := false, narrowed := true }
def XcurvesUptoSaid : Prop := xcurvesUptoRow.holds Try.pinned (OpenSpec.upto xcurvesSpec)

/-- 'halberdlaw10.XcurveAgrees', WHERE WHAT IT READS IS OF BULK AT MOST 1048576: true; the input reads as it did. -/
def xcurveAgreesUptoRow : OpenClaim := { program := "ytofhjelmgekofaa", sum := "a2c2414bfc3b75d9f5a0178569490ea17f31497a20e46e3b67a020c03bf9190b", func := "halberd/halberdlaw10.XcurveAgrees", spec := "xcurveAgrees", inPlace := ["math/bits.Add64", "math/bits.Sub64"], apart := false, narrowed := true }
def XcurveAgreesUptoSaid : Prop := xcurveAgreesUptoRow.holds Try.pinned (OpenSpec.upto xcurveAgreesSpec)

/-- 'halberdlaw10.XcurveTop', WHERE WHAT IT READS IS OF BULK AT MOST 1048576: true; the input reads as it did. -/
def xcurveTopUptoRow : OpenClaim := { program := "ytofhjelmgekofaa", sum := "a2c2414bfc3b75d9f5a0178569490ea17f31497a20e46e3b67a020c03bf9190b", func := "halberd/halberdlaw10.XcurveTop", spec := "xcurveTop", inPlace := ["math/bits.Add64", "math/bits.Sub64"], apart := false, narrowed := true }
def XcurveTopUptoSaid : Prop := xcurveTopUptoRow.holds Try.pinned (OpenSpec.upto xcurveTopSpec)

/-- 'halberdlaw10.XcurveReduced', WHERE WHAT IT READS IS OF BULK AT MOST 1048576: true; the input reads as it did. -/
def xcurveReducedUptoRow : OpenClaim := { program := "ytofhjelmgekofaa", sum := "a2c2414bfc3b75d9f5a0178569490ea17f31497a20e46e3b67a020c03bf9190b", func := "halberd/halberdlaw10.XcurveReduced", spec := "xcurveReduced", inPlace := ["math/bits.Add64", "math/bits.Sub64"], apart := false, narrowed := true }
def XcurveReducedUptoSaid : Prop := xcurveReducedUptoRow.holds Try.pinned (OpenSpec.upto xcurveReducedSpec)

end Rows
end Go.Proofs.Ytofhjelmgekofaa
