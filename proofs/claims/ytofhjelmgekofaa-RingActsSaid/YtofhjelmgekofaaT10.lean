/-
  Contracts of functions of the program, each said of symbolic values; no condition beyond each statement's own.
-/
import Derived.Test.YtofhjelmgekofaaT9
namespace Go.Sym.R
open Go Go.Proofs.Try Go.Sym.Ring
set_option maxRecDepth 100000
theorem has_act {r : List At} (h : AllHas [.i, .s, .i, .i] r) : ∃ k s p m, r = [.int k, .str s, .int p, .int m] ∧ s.length ≤ 140737488351232 ∧ -9223372036854775808 ≤ m ∧ m ≤ 9223372036854775807 := by
  match r, h with
  | [.int k, .str s, .int p, .int m], h => exact ⟨k, s, p, m, rfl, h.2.1, h.2.2.2.1⟩
theorem ringActs_end (w : World) (z : Int) (_ : -9223372036854775808 ≤ z ∧ z ≤ 9223372036854775807) (a : Option Addr) (n c : Nat) (rows : List (List At)) (hn : rows.length = n) (hb : n * 40 ≤ 140737488351232)
    (has : ∀ r ∈ rows, AllHas [.i, .s, .i, .i] r ∧ r.length = 4) :
    fnVC (lawG f3.ntmps tysA ringFnA w [⟨30, a.getD ⟨0, 0, none⟩, 4, false, rows⟩]) pl3 (codeOf f3) f3.results.toList [.int z, .xsl a n c] [] (fun r _ => r = .bool true) :=
  ringActs_vc w z a n c rows hn (by omega) fun r hr => has_act (has r hr).1
end Go.Sym.R
