/-
  No cell of these rows narrows 'for every input' (looked for: loops, veiled, ifaces, maps, wideKeys, modest, calm, conditions, laid).
  DERIVED. THE GIVEN ROWS OF THIS SEAT. 8 by the template 'for every input the law returns true; each argument reads behind the call as it read before'; 0 by the template 'total and deterministic' (their statements: YtmmpgjcpielefaaTotals.lean).
  GIVEN WITH THE SEED: the statements are not yours to turn. If you find one false, say at which input.
  Laid BY PROGRAM, IN A SANDBOX (cutbox-rows.mjs): the forced cells as the released guide's own fill.sh prints them over the translation c9927f43d32b3c91… (all of the seat's roots in one cut). By AI agents, Wed Nov 11 2026. No macro, syntax, notation, axiom, sorry.
-/
import Derived.Test.YtmmpgjcpielefaaChecked
import GoSem.Claim
import GoSem.ClaimJoined
import GoSem.ClaimMapViews
import Derived.JoinedTies
import Derived.KernelRfl
namespace Go.Proofs.Ytmmpgjcpielefaa
/- THE CELL 'sum', in the pinned program and in every row, IS THE sha256 OF THE DUMP (.gsa) THAT YtmmpgjcpielefaaProg.lean LOADS. Nothing in Lean hashes anything: it is a label: what it is worth is what the hold of that sum in a sandbox is worth. -/
noncomputable def Try.pinned : Pinned := { name := "ytmmpgjcpielefaa", sum := "c9927f43d32b3c91ca76906e92038dc4cf3a4ac2417ed5976543bf2e5e5e6e7d", checked := Try.checked }
namespace Rows
def none {H : Type} : Left H := { results := [], args := [] }

/-- 'halberdlaw8.Aeads': WHATEVER THE INPUT: true; the input reads as it did. -/
def aeadsSpec : ChangeSpec := { name := "aeads", fn := fun _ => fun
  | [d1, d2, d3, d4, d5] => { results := [.lit (.bool true)], args := [d1, d2, d3, d4, d5] }
  | _ => none }
def aeadsRow : OpenClaim := { program := "ytmmpgjcpielefaa", sum := "c9927f43d32b3c91ca76906e92038dc4cf3a4ac2417ed5976543bf2e5e5e6e7d", func := "halberd/halberdlaw8.Aeads", spec := "aeads", apart := false }
def AeadsSaid : Prop := aeadsRow.holds Try.pinned (OpenSpec.ofChange aeadsSpec)

/-- ITS FALSE NEIGHBOUR: 'it returns false'. Refute it at one input. -/
def aeadsWrong : ChangeSpec := { name := "aeads", fn := fun _ => fun
  | [d1, d2, d3, d4, d5] => { results := [.lit (.bool false)], args := [d1, d2, d3, d4, d5] }
  | _ => none }
def AeadsWrongFalsely : Prop := aeadsRow.holds Try.pinned (OpenSpec.ofChange aeadsWrong)

/-- 'halberdlaw8.AeadPlaces': WHATEVER THE INPUT: true; the input reads as it did. -/
def aeadPlacesSpec : ChangeSpec := { name := "aeadPlaces", fn := fun _ => fun
  | [d1, d2, d3, d4, d5, d6] => { results := [.lit (.bool true)], args := [d1, d2, d3, d4, d5, d6] }
  | _ => none }
def aeadPlacesRow : OpenClaim := { program := "ytmmpgjcpielefaa", sum := "c9927f43d32b3c91ca76906e92038dc4cf3a4ac2417ed5976543bf2e5e5e6e7d", func := "halberd/halberdlaw8.AeadPlaces", spec := "aeadPlaces", apart := false }
def AeadPlacesSaid : Prop := aeadPlacesRow.holds Try.pinned (OpenSpec.ofChange aeadPlacesSpec)

/-- ITS FALSE NEIGHBOUR: 'it returns false'. Refute it at one input. -/
def aeadPlacesWrong : ChangeSpec := { name := "aeadPlaces", fn := fun _ => fun
  | [d1, d2, d3, d4, d5, d6] => { results := [.lit (.bool false)], args := [d1, d2, d3, d4, d5, d6] }
  | _ => none }
def AeadPlacesWrongFalsely : Prop := aeadPlacesRow.holds Try.pinned (OpenSpec.ofChange aeadPlacesWrong)

/-- 'halberdlaw8.AeadSuites': WHATEVER THE INPUT: true; the input reads as it did. -/
def aeadSuitesSpec : ChangeSpec := { name := "aeadSuites", fn := fun _ => fun
  | [d1, d2, d3, d4] => { results := [.lit (.bool true)], args := [d1, d2, d3, d4] }
  | _ => none }
def aeadSuitesRow : OpenClaim := { program := "ytmmpgjcpielefaa", sum := "c9927f43d32b3c91ca76906e92038dc4cf3a4ac2417ed5976543bf2e5e5e6e7d", func := "halberd/halberdlaw8.AeadSuites", spec := "aeadSuites", apart := false }
def AeadSuitesSaid : Prop := aeadSuitesRow.holds Try.pinned (OpenSpec.ofChange aeadSuitesSpec)

/-- ITS FALSE NEIGHBOUR: 'it returns false'. Refute it at one input. -/
def aeadSuitesWrong : ChangeSpec := { name := "aeadSuites", fn := fun _ => fun
  | [d1, d2, d3, d4] => { results := [.lit (.bool false)], args := [d1, d2, d3, d4] }
  | _ => none }
def AeadSuitesWrongFalsely : Prop := aeadSuitesRow.holds Try.pinned (OpenSpec.ofChange aeadSuitesWrong)

/-- 'halberdlaw8.AeadForms': WHATEVER THE INPUT: true; the input reads as it did. -/
def aeadFormsSpec : ChangeSpec := { name := "aeadForms", fn := fun _ => fun
  | [d1, d2, d3] => { results := [.lit (.bool true)], args := [d1, d2, d3] }
  | _ => none }
def aeadFormsRow : OpenClaim := { program := "ytmmpgjcpielefaa", sum := "c9927f43d32b3c91ca76906e92038dc4cf3a4ac2417ed5976543bf2e5e5e6e7d", func := "halberd/halberdlaw8.AeadForms", spec := "aeadForms", apart := false }
def AeadFormsSaid : Prop := aeadFormsRow.holds Try.pinned (OpenSpec.ofChange aeadFormsSpec)

/-- ITS FALSE NEIGHBOUR: 'it returns false'. Refute it at one input. -/
def aeadFormsWrong : ChangeSpec := { name := "aeadForms", fn := fun _ => fun
  | [d1, d2, d3] => { results := [.lit (.bool false)], args := [d1, d2, d3] }
  | _ => none }
def AeadFormsWrongFalsely : Prop := aeadFormsRow.holds Try.pinned (OpenSpec.ofChange aeadFormsWrong)

/-- 'halberdlaw21.RecHeads': WHATEVER THE INPUT: true; the input reads as it did. -/
def recHeadsSpec : ChangeSpec := { name := "recHeads", fn := fun _ => fun
  | [d1, d2, d3, d4] => { results := [.lit (.bool true)], args := [d1, d2, d3, d4] }
  | _ => none }
def recHeadsRow : OpenClaim := { program := "ytmmpgjcpielefaa", sum := "c9927f43d32b3c91ca76906e92038dc4cf3a4ac2417ed5976543bf2e5e5e6e7d", func := "halberd/halberdlaw21.RecHeads", spec := "recHeads", unfollowed := true, recurses := true, apart := false }
def RecHeadsSaid : Prop := recHeadsRow.holds Try.pinned (OpenSpec.ofChange recHeadsSpec)

/-- ITS FALSE NEIGHBOUR: 'it returns false'. Refute it at one input. -/
def recHeadsWrong : ChangeSpec := { name := "recHeads", fn := fun _ => fun
  | [d1, d2, d3, d4] => { results := [.lit (.bool false)], args := [d1, d2, d3, d4] }
  | _ => none }
def RecHeadsWrongFalsely : Prop := recHeadsRow.holds Try.pinned (OpenSpec.ofChange recHeadsWrong)

/-- 'halberdlaw21.RecLimits': WHATEVER THE INPUT: true; the input reads as it did. -/
def recLimitsSpec : ChangeSpec := { name := "recLimits", fn := fun _ => fun
  | [d1, d2, d3] => { results := [.lit (.bool true)], args := [d1, d2, d3] }
  | _ => none }
def recLimitsRow : OpenClaim := { program := "ytmmpgjcpielefaa", sum := "c9927f43d32b3c91ca76906e92038dc4cf3a4ac2417ed5976543bf2e5e5e6e7d", func := "halberd/halberdlaw21.RecLimits", spec := "recLimits", unfollowed := true, recurses := true, apart := false }
def RecLimitsSaid : Prop := recLimitsRow.holds Try.pinned (OpenSpec.ofChange recLimitsSpec)

/-- ITS FALSE NEIGHBOUR: 'it returns false'. Refute it at one input. -/
def recLimitsWrong : ChangeSpec := { name := "recLimits", fn := fun _ => fun
  | [d1, d2, d3] => { results := [.lit (.bool false)], args := [d1, d2, d3] }
  | _ => none }
def RecLimitsWrongFalsely : Prop := recLimitsRow.holds Try.pinned (OpenSpec.ofChange recLimitsWrong)

/-- 'halberdlaw21.RecKeys': WHATEVER THE INPUT: true; the input reads as it did. -/
def recKeysSpec : ChangeSpec := { name := "recKeys", fn := fun _ => fun
  | [d1, d2, d3] => { results := [.lit (.bool true)], args := [d1, d2, d3] }
  | _ => none }
def recKeysRow : OpenClaim := { program := "ytmmpgjcpielefaa", sum := "c9927f43d32b3c91ca76906e92038dc4cf3a4ac2417ed5976543bf2e5e5e6e7d", func := "halberd/halberdlaw21.RecKeys", spec := "recKeys", unfollowed := true, recurses := true, apart := false }
def RecKeysSaid : Prop := recKeysRow.holds Try.pinned (OpenSpec.ofChange recKeysSpec)

/-- ITS FALSE NEIGHBOUR: 'it returns false'. Refute it at one input. -/
def recKeysWrong : ChangeSpec := { name := "recKeys", fn := fun _ => fun
  | [d1, d2, d3] => { results := [.lit (.bool false)], args := [d1, d2, d3] }
  | _ => none }
def RecKeysWrongFalsely : Prop := recKeysRow.holds Try.pinned (OpenSpec.ofChange recKeysWrong)

/-- 'halberdlaw21.RecClear': WHATEVER THE INPUT: true; the input reads as it did. -/
def recClearSpec : ChangeSpec := { name := "recClear", fn := fun _ => fun
  | [d1, d2, d3] => { results := [.lit (.bool true)], args := [d1, d2, d3] }
  | _ => none }
def recClearRow : OpenClaim := { program := "ytmmpgjcpielefaa", sum := "c9927f43d32b3c91ca76906e92038dc4cf3a4ac2417ed5976543bf2e5e5e6e7d", func := "halberd/halberdlaw21.RecClear", spec := "recClear", unfollowed := true, recurses := true, apart := false }
def RecClearSaid : Prop := recClearRow.holds Try.pinned (OpenSpec.ofChange recClearSpec)

/-- ITS FALSE NEIGHBOUR: 'it returns false'. Refute it at one input. -/
def recClearWrong : ChangeSpec := { name := "recClear", fn := fun _ => fun
  | [d1, d2, d3] => { results := [.lit (.bool false)], args := [d1, d2, d3] }
  | _ => none }
def RecClearWrongFalsely : Prop := recClearRow.holds Try.pinned (OpenSpec.ofChange recClearWrong)

/- THE SECOND FORM. 'bulk': how many values and letters a reading holds, each counted each time it is reached (what is shared counts as often as it is met; a slice's spare places count too). A statement '..UptoSaid' is the law's where the arguments, and the package variables that the reading takes, are together of bulk at most 1048576: NARROWER than '..Said'. Prove '..Said' where nothing that the law and all that it calls make is longer than what came in: it says more and counts as full. Else prove '..UptoSaid'. A law counts once. -/
mutual
def uptoBulk {H : Type} : DataW H → Nat
  | .lit (.string bytes) => bytes.length + 1
  | .lit _ => 1
  | .nil => 1
  | .ptr d => uptoBulk d + 1
  | .slice elems spare => uptoBulkAll elems + uptoBulkAll spare + 1
  | .agg parts => uptoBulkAll parts + 1
  | .iface _ d => uptoBulk d + 1
  | .map entries => uptoBulkEntries entries + 1
  | .held _ => 1
def uptoBulkAll {H : Type} : List (DataW H) → Nat
  | [] => 0
  | d :: r => uptoBulk d + uptoBulkAll r
def uptoBulkEntries {H : Type} : List (Lit × DataW H) → Nat
  | [] => 0
  | x :: r => uptoBulkEntry x + uptoBulkEntries r
def uptoBulkEntry {H : Type} : Lit × DataW H → Nat
  | (.string bytes, d) => bytes.length + uptoBulk d + 1
  | (_, d) => uptoBulk d + 1
 end
def uptoSmall : (H : Type) → List (DataW H) → Bool := fun _ ds => decide (uptoBulkAll ds ≤ 1048576)
def OpenSpec.upto (s : _root_.Go.ChangeSpec) : _root_.Go.OpenSpec := { _root_.Go.OpenSpec.ofChange s with cond := some uptoSmall }

/-- 'halberdlaw8.Aeads', WHERE WHAT IT READS IS OF BULK AT MOST 1048576: true; the input reads as it did. -/
def aeadsUptoRow : OpenClaim := { program := "ytmmpgjcpielefaa", sum := "c9927f43d32b3c91ca76906e92038dc4cf3a4ac2417ed5976543bf2e5e5e6e7d", func := "halberd/halberdlaw8.Aeads", spec := "aeads", apart := false, narrowed := true }
def AeadsUptoSaid : Prop := aeadsUptoRow.holds Try.pinned (OpenSpec.upto aeadsSpec)

/-- 'halberdlaw8.AeadPlaces', WHERE WHAT IT READS IS OF BULK AT MOST 1048576: true; the input reads as it did. -/
def aeadPlacesUptoRow : OpenClaim := { program := "ytmmpgjcpielefaa", sum := "c9927f43d32b3c91ca76906e92038dc4cf3a4ac2417ed5976543bf2e5e5e6e7d", func := "halberd/halberdlaw8.AeadPlaces", spec := "aeadPlaces", apart := false, narrowed := true }
def AeadPlacesUptoSaid : Prop := aeadPlacesUptoRow.holds Try.pinned (OpenSpec.upto aeadPlacesSpec)

/-- 'halberdlaw8.AeadSuites', WHERE WHAT IT READS IS OF BULK AT MOST 1048576: true; the input reads as it did. -/
def aeadSuitesUptoRow : OpenClaim := { program := "ytmmpgjcpielefaa", sum := "c9927f43d32b3c91ca76906e92038dc4cf3a4ac2417ed5976543bf2e5e5e6e7d", func := "halberd/halberdlaw8.AeadSuites", spec := "aeadSuites", apart := false, narrowed := true }
def AeadSuitesUptoSaid : Prop := aeadSuitesUptoRow.holds Try.pinned (OpenSpec.upto aeadSuitesSpec)

/-- 'halberdlaw8.AeadForms', WHERE WHAT IT READS IS OF BULK AT MOST 1048576: true; the input reads as it did. -/
def aeadFormsUptoRow : OpenClaim := { program := "ytmmpgjcpielefaa", sum := "c9927f43d32b3c91ca76906e92038dc4cf3a4ac2417ed5976543bf2e5e5e6e7d", func := "halberd/halberdlaw8.AeadForms", spec := "aeadForms", apart := false, narrowed := true }
def AeadFormsUptoSaid : Prop := aeadFormsUptoRow.holds Try.pinned (OpenSpec.upto aeadFormsSpec)

/-- 'halberdlaw21.RecHeads', WHERE WHAT IT READS IS OF BULK AT MOST 1048576: true; the input reads as it did. -/
def recHeadsUptoRow : OpenClaim := { program := "ytmmpgjcpielefaa", sum := "c9927f43d32b3c91ca76906e92038dc4cf3a4ac2417ed5976543bf2e5e5e6e7d", func := "halberd/halberdlaw21.RecHeads", spec := "recHeads", unfollowed := true, recurses := true, apart := false, narrowed := true }
def RecHeadsUptoSaid : Prop := recHeadsUptoRow.holds Try.pinned (OpenSpec.upto recHeadsSpec)

/-- 'halberdlaw21.RecLimits', WHERE WHAT IT READS IS OF BULK AT MOST 1048576: true; the input reads as it did. -/
def recLimitsUptoRow : OpenClaim := { program := "ytmmpgjcpielefaa", sum := "c9927f43d32b3c91ca76906e92038dc4cf3a4ac2417ed5976543bf2e5e5e6e7d", func := "halberd/halberdlaw21.RecLimits", spec := "recLimits", unfollowed := true, recurses := true, apart := false, narrowed := true }
def RecLimitsUptoSaid : Prop := recLimitsUptoRow.holds Try.pinned (OpenSpec.upto recLimitsSpec)

/-- 'halberdlaw21.RecKeys', WHERE WHAT IT READS IS OF BULK AT MOST 1048576: true; the input reads as it did. -/
def recKeysUptoRow : OpenClaim := { program := "ytmmpgjcpielefaa", sum := "c9927f43d32b3c91ca76906e92038dc4cf3a4ac2417ed5976543bf2e5e5e6e7d", func := "halberd/halberdlaw21.RecKeys", spec := "recKeys", unfollowed := true, recurses := true, apart := false, narrowed := true }
def RecKeysUptoSaid : Prop := recKeysUptoRow.holds Try.pinned (OpenSpec.upto recKeysSpec)

/-- 'halberdlaw21.RecClear', WHERE WHAT IT READS IS OF BULK AT MOST 1048576: true; the input reads as it did. -/
def recClearUptoRow : OpenClaim := { program := "ytmmpgjcpielefaa", sum := "c9927f43d32b3c91ca76906e92038dc4cf3a4ac2417ed5976543bf2e5e5e6e7d", func := "halberd/halberdlaw21.RecClear", spec := "recClear", unfollowed := true, recurses := true, apart := false, narrowed := true }
def RecClearUptoSaid : Prop := recClearUptoRow.holds Try.pinned (OpenSpec.upto recClearSpec)

end Rows
end Go.Proofs.Ytmmpgjcpielefaa
