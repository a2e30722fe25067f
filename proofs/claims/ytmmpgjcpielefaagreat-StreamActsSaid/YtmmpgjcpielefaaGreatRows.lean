/-
  No cell of these rows narrows 'for every input' (looked for: loops, veiled, ifaces, maps, wideKeys, modest, calm, conditions, laid).
  DERIVED. THE GIVEN ROWS OF THIS SEAT. 7 by the template 'for every input the law returns true; each argument reads behind the call as it read before'; 0 by the template 'total and deterministic' (their statements: YtmmpgjcpielefaaGreatTotals.lean).
  GIVEN WITH THE SEED: the statements are not yours to turn. If you find one false, say at which input.
  Laid BY PROGRAM, IN A SANDBOX (cutbox-rows.mjs): the forced cells as the released guide's own fill.sh prints them over the translation 92179001afa5324e… (all of the seat's roots in one cut). By AI agents, Wed Nov 11 2026. No macro, syntax, notation, axiom, sorry.
-/
import Derived.Test.YtmmpgjcpielefaaGreatChecked
import GoSem.Claim
import GoSem.ClaimJoined
import GoSem.ClaimMapViews
import Derived.JoinedTies
import Derived.KernelRfl
namespace Go.Proofs.YtmmpgjcpielefaaGreat
/- THE CELL 'sum', in the pinned program and in every row, IS THE sha256 OF THE DUMP (.gsa) THAT YtmmpgjcpielefaaGreatProg.lean LOADS. Nothing in Lean hashes anything: it is a label: what it is worth is what the hold of that sum in a sandbox is worth. -/
noncomputable def Tryz.pinned : Pinned := { name := "ytmmpgjcpielefaagreat", sum := "92179001afa5324e9d69e3cee5403df444ddbc395e46e1f5f46966835ae40183", checked := Tryz.checked }
namespace Rows
def none {H : Type} : Left H := { results := [], args := [] }

/-- 'halberdlaw21.RecActs': WHATEVER THE INPUT: true; the input reads as it did. -/
def recActsSpec : ChangeSpec := { name := "recActs", fn := fun _ => fun
  | [d1, d2] => { results := [.lit (.bool true)], args := [d1, d2] }
  | _ => none }
def recActsRow : OpenClaim := { program := "ytmmpgjcpielefaagreat", sum := "92179001afa5324e9d69e3cee5403df444ddbc395e46e1f5f46966835ae40183", func := "halberd/halberdlaw21.RecActs", spec := "recActs", unfollowed := true, recurses := true, apart := false }
def RecActsSaid : Prop := recActsRow.holds Tryz.pinned (OpenSpec.ofChange recActsSpec)

/-- ITS FALSE NEIGHBOUR: 'it returns false'. Refute it at one input. -/
def recActsWrong : ChangeSpec := { name := "recActs", fn := fun _ => fun
  | [d1, d2] => { results := [.lit (.bool false)], args := [d1, d2] }
  | _ => none }
def RecActsWrongFalsely : Prop := recActsRow.holds Tryz.pinned (OpenSpec.ofChange recActsWrong)

/-- 'halberdlaw21.RecInner': WHATEVER THE INPUT: true; the input reads as it did. -/
def recInnerSpec : ChangeSpec := { name := "recInner", fn := fun _ => fun
  | [d1, d2, d3, d4, d5] => { results := [.lit (.bool true)], args := [d1, d2, d3, d4, d5] }
  | _ => none }
def recInnerRow : OpenClaim := { program := "ytmmpgjcpielefaagreat", sum := "92179001afa5324e9d69e3cee5403df444ddbc395e46e1f5f46966835ae40183", func := "halberd/halberdlaw21.RecInner", spec := "recInner", unfollowed := true, recurses := true, apart := false }
def RecInnerSaid : Prop := recInnerRow.holds Tryz.pinned (OpenSpec.ofChange recInnerSpec)

/-- ITS FALSE NEIGHBOUR: 'it returns false'. Refute it at one input. -/
def recInnerWrong : ChangeSpec := { name := "recInner", fn := fun _ => fun
  | [d1, d2, d3, d4, d5] => { results := [.lit (.bool false)], args := [d1, d2, d3, d4, d5] }
  | _ => none }
def RecInnerWrongFalsely : Prop := recInnerRow.holds Tryz.pinned (OpenSpec.ofChange recInnerWrong)

/-- 'halberdlaw21.RecGreat': WHATEVER THE INPUT: true; the input reads as it did. -/
def recGreatSpec : ChangeSpec := { name := "recGreat", fn := fun _ => fun
  | [d1, d2] => { results := [.lit (.bool true)], args := [d1, d2] }
  | _ => none }
def recGreatRow : OpenClaim := { program := "ytmmpgjcpielefaagreat", sum := "92179001afa5324e9d69e3cee5403df444ddbc395e46e1f5f46966835ae40183", func := "halberd/halberdlaw21.RecGreat", spec := "recGreat", unfollowed := true, recurses := true, apart := false }
def RecGreatSaid : Prop := recGreatRow.holds Tryz.pinned (OpenSpec.ofChange recGreatSpec)

/-- ITS FALSE NEIGHBOUR: 'it returns false'. Refute it at one input. -/
def recGreatWrong : ChangeSpec := { name := "recGreat", fn := fun _ => fun
  | [d1, d2] => { results := [.lit (.bool false)], args := [d1, d2] }
  | _ => none }
def RecGreatWrongFalsely : Prop := recGreatRow.holds Tryz.pinned (OpenSpec.ofChange recGreatWrong)

/-- 'halberdlaw23.StreamFull': WHATEVER THE INPUT: true; the input reads as it did. -/
def streamFullSpec : ChangeSpec := { name := "streamFull", fn := fun _ => fun
  | [d1, d2] => { results := [.lit (.bool true)], args := [d1, d2] }
  | _ => none }
def streamFullRow : OpenClaim := { program := "ytmmpgjcpielefaagreat", sum := "92179001afa5324e9d69e3cee5403df444ddbc395e46e1f5f46966835ae40183", func := "halberd/halberdlaw23.StreamFull", spec := "streamFull", unfollowed := true, recurses := true, apart := false }
def StreamFullSaid : Prop := streamFullRow.holds Tryz.pinned (OpenSpec.ofChange streamFullSpec)

/-- ITS FALSE NEIGHBOUR: 'it returns false'. Refute it at one input. -/
def streamFullWrong : ChangeSpec := { name := "streamFull", fn := fun _ => fun
  | [d1, d2] => { results := [.lit (.bool false)], args := [d1, d2] }
  | _ => none }
def StreamFullWrongFalsely : Prop := streamFullRow.holds Tryz.pinned (OpenSpec.ofChange streamFullWrong)

/-- 'halberdlaw23.StreamRound': WHATEVER THE INPUT: true; the input reads as it did. -/
def streamRoundSpec : ChangeSpec := { name := "streamRound", fn := fun _ => fun
  | [d1, d2, d3] => { results := [.lit (.bool true)], args := [d1, d2, d3] }
  | _ => none }
def streamRoundRow : OpenClaim := { program := "ytmmpgjcpielefaagreat", sum := "92179001afa5324e9d69e3cee5403df444ddbc395e46e1f5f46966835ae40183", func := "halberd/halberdlaw23.StreamRound", spec := "streamRound", unfollowed := true, recurses := true, apart := false }
def StreamRoundSaid : Prop := streamRoundRow.holds Tryz.pinned (OpenSpec.ofChange streamRoundSpec)

/-- ITS FALSE NEIGHBOUR: 'it returns false'. Refute it at one input. -/
def streamRoundWrong : ChangeSpec := { name := "streamRound", fn := fun _ => fun
  | [d1, d2, d3] => { results := [.lit (.bool false)], args := [d1, d2, d3] }
  | _ => none }
def StreamRoundWrongFalsely : Prop := streamRoundRow.holds Tryz.pinned (OpenSpec.ofChange streamRoundWrong)

/-- 'halberdlaw23.StreamActs': WHATEVER THE INPUT: true; the input reads as it did. -/
def streamActsSpec : ChangeSpec := { name := "streamActs", fn := fun _ => fun
  | [d1, d2, d3] => { results := [.lit (.bool true)], args := [d1, d2, d3] }
  | _ => none }
def streamActsRow : OpenClaim := { program := "ytmmpgjcpielefaagreat", sum := "92179001afa5324e9d69e3cee5403df444ddbc395e46e1f5f46966835ae40183", func := "halberd/halberdlaw23.StreamActs", spec := "streamActs", unfollowed := true, recurses := true, apart := false }
def StreamActsSaid : Prop := streamActsRow.holds Tryz.pinned (OpenSpec.ofChange streamActsSpec)

/-- ITS FALSE NEIGHBOUR: 'it returns false'. Refute it at one input. -/
def streamActsWrong : ChangeSpec := { name := "streamActs", fn := fun _ => fun
  | [d1, d2, d3] => { results := [.lit (.bool false)], args := [d1, d2, d3] }
  | _ => none }
def StreamActsWrongFalsely : Prop := streamActsRow.holds Tryz.pinned (OpenSpec.ofChange streamActsWrong)

/-- 'halberdlaw23.StreamTwins': WHATEVER THE INPUT: true; the input reads as it did. -/
def streamTwinsSpec : ChangeSpec := { name := "streamTwins", fn := fun _ => fun
  | [d1, d2, d3, d4, d5] => { results := [.lit (.bool true)], args := [d1, d2, d3, d4, d5] }
  | _ => none }
def streamTwinsRow : OpenClaim := { program := "ytmmpgjcpielefaagreat", sum := "92179001afa5324e9d69e3cee5403df444ddbc395e46e1f5f46966835ae40183", func := "halberd/halberdlaw23.StreamTwins", spec := "streamTwins", unfollowed := true, recurses := true, apart := false }
def StreamTwinsSaid : Prop := streamTwinsRow.holds Tryz.pinned (OpenSpec.ofChange streamTwinsSpec)

/-- ITS FALSE NEIGHBOUR: 'it returns false'. Refute it at one input. -/
def streamTwinsWrong : ChangeSpec := { name := "streamTwins", fn := fun _ => fun
  | [d1, d2, d3, d4, d5] => { results := [.lit (.bool false)], args := [d1, d2, d3, d4, d5] }
  | _ => none }
def StreamTwinsWrongFalsely : Prop := streamTwinsRow.holds Tryz.pinned (OpenSpec.ofChange streamTwinsWrong)

/- THE SECOND FORM. 'bulk': how many values and letters a reading holds, each counted each time it is reached (what is shared counts as often as it is met; a slice's spare places count too). A statement '..UptoSaid' is the law's where the arguments, and the package variables that the reading takes, are together of bulk at most 1048576: NARROWER than '..Said'. Prove '..Said' where nothing that the law and all that it calls make is longer than what came in: it says more and counts as full. Else prove '..UptoSaid'. A law counts once. -/
mutual
def uptoBulk {H : Type} : DataW H → Nat
  | .lit (.string bytes) => bytes.length + 1
  | .lit _ => 1
  | .nil => 1
  | .ptr d => uptoBulk d + 1
  | .slice elems spare => uptoBulkAll elems + uptoBulkAll spare + 1
  | .agg parts => uptoBulkAll parts + 1
  | .iface _ d => uptoBulk d + 1
  | .map entries => uptoBulkEntries entries + 1
  | .held _ => 1
def uptoBulkAll {H : Type} : List (DataW H) → Nat
  | [] => 0
  | d :: r => uptoBulk d + uptoBulkAll r
def uptoBulkEntries {H : Type} : List (Lit × DataW H) → Nat
  | [] => 0
  | x :: r => uptoBulkEntry x + uptoBulkEntries r
def uptoBulkEntry {H : Type} : Lit × DataW H → Nat
  | (.string bytes, d) => bytes.length + uptoBulk d + 1
  | (_, d) => uptoBulk d + 1
 end
def uptoSmall : (H : Type) → List (DataW H) → Bool := fun _ ds => decide (uptoBulkAll ds ≤ 1048576)
def OpenSpec.upto (s : _root_.Go.ChangeSpec) : _root_.Go.OpenSpec := { _root_.Go.OpenSpec.ofChange s with cond := some uptoSmall }

/-- 'halberdlaw21.RecActs', WHERE WHAT IT READS IS OF BULK AT MOST 1048576: true; the input reads as it did. -/
def recActsUptoRow : OpenClaim := { program := "ytmmpgjcpielefaagreat", sum := "92179001afa5324e9d69e3cee5403df444ddbc395e46e1f5f46966835ae40183", func := "halberd/halberdlaw21.RecActs", spec := "recActs", unfollowed := true, recurses := true, apart := false, narrowed := true }
def RecActsUptoSaid : Prop := recActsUptoRow.holds Tryz.pinned (OpenSpec.upto recActsSpec)

/-- 'halberdlaw21.RecInner', WHERE WHAT IT READS IS OF BULK AT MOST 1048576: true; the input reads as it did. -/
def recInnerUptoRow : OpenClaim := { program := "ytmmpgjcpielefaagreat", sum := "92179001afa5324e9d69e3cee5403df444ddbc395e46e1f5f46966835ae40183", func := "halberd/halberdlaw21.RecInner", spec := "recInner", unfollowed := true, recurses := true, apart := false, narrowed := true }
def RecInnerUptoSaid : Prop := recInnerUptoRow.holds Tryz.pinned (OpenSpec.upto recInnerSpec)

/-- 'halberdlaw21.RecGreat', WHERE WHAT IT READS IS OF BULK AT MOST 1048576: true; the input reads as it did. -/
def recGreatUptoRow : OpenClaim := { program := "ytmmpgjcpielefaagreat", sum := "92179001afa5324e9d69e3cee5403df444ddbc395e46e1f5f46966835ae40183", func := "halberd/halberdlaw21.RecGreat", spec := "recGreat", unfollowed := true, recurses := true, apart := false, narrowed := true }
def RecGreatUptoSaid : Prop := recGreatUptoRow.holds Tryz.pinned (OpenSpec.upto recGreatSpec)

/-- 'halberdlaw23.StreamFull', WHERE WHAT IT READS IS OF BULK AT MOST 1048576: true; the input reads as it did. -/
def streamFullUptoRow : OpenClaim := { program := "ytmmpgjcpielefaagreat", sum := "92179001afa5324e9d69e3cee5403df444ddbc395e46e1f5f46966835ae40183", func := "halberd/halberdlaw23.StreamFull", spec := "streamFull", unfollowed := true, recurses := true, apart := false, narrowed := true }
def StreamFullUptoSaid : Prop := streamFullUptoRow.holds Tryz.pinned (OpenSpec.upto streamFullSpec)

/-- 'halberdlaw23.StreamRound', WHERE WHAT IT READS IS OF BULK AT MOST 1048576: true; the input reads as it did. -/
def streamRoundUptoRow : OpenClaim := { program := "ytmmpgjcpielefaagreat", sum := "92179001afa5324e9d69e3cee5403df444ddbc395e46e1f5f46966835ae40183", func := "halberd/halberdlaw23.StreamRound", spec := "streamRound", unfollowed := true, recurses := true, apart := false, narrowed := true }
def StreamRoundUptoSaid : Prop := streamRoundUptoRow.holds Tryz.pinned (OpenSpec.upto streamRoundSpec)

/-- 'halberdlaw23.StreamActs', WHERE WHAT IT READS IS OF BULK AT MOST 1048576: true; the input reads as it did. -/
def streamActsUptoRow : OpenClaim := { program := "ytmmpgjcpielefaagreat", sum := "92179001afa5324e9d69e3cee5403df444ddbc395e46e1f5f46966835ae40183", func := "halberd/halberdlaw23.StreamActs", spec := "streamActs", unfollowed := true, recurses := true, apart := false, narrowed := true }
def StreamActsUptoSaid : Prop := streamActsUptoRow.holds Tryz.pinned (OpenSpec.upto streamActsSpec)

/-- 'halberdlaw23.StreamTwins', WHERE WHAT IT READS IS OF BULK AT MOST 1048576: true; the input reads as it did. -/
def streamTwinsUptoRow : OpenClaim := { program := "ytmmpgjcpielefaagreat", sum := "92179001afa5324e9d69e3cee5403df444ddbc395e46e1f5f46966835ae40183", func := "halberd/halberdlaw23.StreamTwins", spec := "streamTwins", unfollowed := true, recurses := true, apart := false, narrowed := true }
def StreamTwinsUptoSaid : Prop := streamTwinsUptoRow.holds Tryz.pinned (OpenSpec.upto streamTwinsSpec)

end Rows
end Go.Proofs.YtmmpgjcpielefaaGreat
