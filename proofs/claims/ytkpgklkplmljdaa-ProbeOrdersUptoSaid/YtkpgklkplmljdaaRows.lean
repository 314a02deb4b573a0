/-
  No cell of these rows narrows 'for every input' (looked for: loops, veiled, ifaces, maps, wideKeys, modest, calm, conditions, laid).
  DERIVED. THE GIVEN ROWS OF THIS SEAT. 3 by the template 'for every input the law returns true; each argument reads behind the call as it read before'; 0 by the template 'total and deterministic' (their statements: YtkpgklkplmljdaaTotals.lean).
  GIVEN WITH THE SEED: the statements are not yours to turn. If you find one false, say at which input.
  Laid BY PROGRAM, IN A SANDBOX (cutbox-rows.mjs): the forced cells as the released guide's own fill.sh prints them over the translation 3ceb59e8d820478b… (all of the seat's roots in one cut). By AI agents, Wed Nov 11 2026. No macro, syntax, notation, axiom, sorry.
-/
import Derived.Test.YtkpgklkplmljdaaChecked
import GoSem.Claim
import GoSem.ClaimJoined
import GoSem.ClaimMapViews
import Derived.JoinedTies
import Derived.KernelRfl
namespace Go.Proofs.Ytkpgklkplmljdaa
/- THE CELL 'sum', in the pinned program and in every row, IS THE sha256 OF THE DUMP (.gsa) THAT YtkpgklkplmljdaaProg.lean LOADS. Nothing in Lean hashes anything: it is a label: what it is worth is what the hold of that sum in a sandbox is worth. -/
noncomputable def Try.pinned : Pinned := { name := "ytkpgklkplmljdaa", sum := "3ceb59e8d820478b15d07471a27458f41299c37f35cfb1056946f1c18e5e33d7", checked := Try.checked }
namespace Rows
def none {H : Type} : Left H := { results := [], args := [] }

/-- 'cofferlaw15.ProbeNames': WHATEVER THE INPUT: true; the input reads as it did. -/
def probeNamesSpec : ChangeSpec := { name := "probeNames", fn := fun _ => fun
  | [] => { results := [.lit (.bool true)], args := [] }
  | _ => none }
def probeNamesRow : OpenClaim := { program := "ytkpgklkplmljdaa", sum := "3ceb59e8d820478b15d07471a27458f41299c37f35cfb1056946f1c18e5e33d7", func := "coffer/cofferlaw15.ProbeNames", spec := "probeNames", apart := false }
def ProbeNamesSaid : Prop := probeNamesRow.holds Try.pinned (OpenSpec.ofChange probeNamesSpec)

/-- ITS FALSE NEIGHBOUR: 'it returns false'. Refute it at one input. -/
def probeNamesWrong : ChangeSpec := { name := "probeNames", fn := fun _ => fun
  | [] => { results := [.lit (.bool false)], args := [] }
  | _ => none }
def ProbeNamesWrongFalsely : Prop := probeNamesRow.holds Try.pinned (OpenSpec.ofChange probeNamesWrong)

/-- 'cofferlaw15.ProbeQuotes': WHATEVER THE INPUT: true; the input reads as it did. -/
def probeQuotesSpec : ChangeSpec := { name := "probeQuotes", fn := fun _ => fun
  | [d] => { results := [.lit (.bool true)], args := [d] }
  | _ => none }
def probeQuotesRow : OpenClaim := { program := "ytkpgklkplmljdaa", sum := "3ceb59e8d820478b15d07471a27458f41299c37f35cfb1056946f1c18e5e33d7", func := "coffer/cofferlaw15.ProbeQuotes", spec := "probeQuotes", inPlace := ["internal/abi.NoEscape"], apart := false }
def ProbeQuotesSaid : Prop := probeQuotesRow.holds Try.pinned (OpenSpec.ofChange probeQuotesSpec)

/-- ITS FALSE NEIGHBOUR: 'it returns false'. Refute it at one input. -/
def probeQuotesWrong : ChangeSpec := { name := "probeQuotes", fn := fun _ => fun
  | [d] => { results := [.lit (.bool false)], args := [d] }
  | _ => none }
def ProbeQuotesWrongFalsely : Prop := probeQuotesRow.holds Try.pinned (OpenSpec.ofChange probeQuotesWrong)

/-- 'cofferlaw15.ProbeOrders': WHATEVER THE INPUT: true; the input reads as it did. -/
def probeOrdersSpec : ChangeSpec := { name := "probeOrders", fn := fun _ => fun
  | [d] => { results := [.lit (.bool true)], args := [d] }
  | _ => none }
def probeOrdersRow : OpenClaim := { program := "ytkpgklkplmljdaa", sum := "3ceb59e8d820478b15d07471a27458f41299c37f35cfb1056946f1c18e5e33d7", func := "coffer/cofferlaw15.ProbeOrders", spec := "probeOrders", recurses := true, apart := false }
def ProbeOrdersSaid : Prop := probeOrdersRow.holds Try.pinned (OpenSpec.ofChange probeOrdersSpec)

/-- ITS FALSE NEIGHBOUR: 'it returns false'. Refute it at one input. -/
def probeOrdersWrong : ChangeSpec := { name := "probeOrders", fn := fun _ => fun
  | [d] => { results := [.lit (.bool false)], args := [d] }
  | _ => none }
def ProbeOrdersWrongFalsely : Prop := probeOrdersRow.holds Try.pinned (OpenSpec.ofChange probeOrdersWrong)

/- THE SECOND FORM. 'bulk': how many values and letters a reading holds, each counted each time it is reached (what is shared counts as often as it is met; a slice's spare places count too). A statement '..UptoSaid' is the law's where the arguments, and the package variables that the reading takes, are together of bulk at most 1048576: NARROWER than '..Said'. Prove '..Said' where nothing that the law and all that it calls make is longer than what came in: it says more and counts as full. Else prove '..UptoSaid'. A law counts once. -/
mutual
def uptoBulk {H : Type} : DataW H → Nat
  | .lit (.string bytes) => bytes.length + 1
  | .lit _ => 1
  | .nil => 1
  | .ptr d => uptoBulk d + 1
  | .slice elems spare => uptoBulkAll elems + uptoBulkAll spare + 1
  | .agg parts => uptoBulkAll parts + 1
  | .iface _ d => uptoBulk d + 1
  | .map entries => uptoBulkEntries entries + 1
  | .held _ => 1
def uptoBulkAll {H : Type} : List (DataW H) → Nat
  | [] => 0
  | d :: r => uptoBulk d + uptoBulkAll r
def uptoBulkEntries {H : Type} : List (Lit × DataW H) → Nat
  | [] => 0
  | x :: r => uptoBulkEntry x + uptoBulkEntries r
def uptoBulkEntry {H : Type} : Lit × DataW H → Nat
  | (.string bytes, d) => bytes.length + uptoBulk d + 1
  | (_, d) => uptoBulk d + 1
 end
def uptoSmall : (H : Type) → List (DataW H) → Bool := fun _ ds => decide (uptoBulkAll ds ≤ 1048576)
def OpenSpec.upto (s : _root_.Go.ChangeSpec) : _root_.Go.OpenSpec := { _root_.Go.OpenSpec.ofChange s with cond := some uptoSmall }

/-- 'cofferlaw15.ProbeNames', WHERE WHAT IT READS IS OF BULK AT MOST 1048576: true; the input reads as it did. -/
def probeNamesUptoRow : OpenClaim := { program := "ytkpgklkplmljdaa", sum := "3ceb59e8d820478b15d07471a27458f41299c37f35cfb1056946f1c18e5e33d7", func := "coffer/cofferlaw15.ProbeNames", spec := "probeNames", apart := false, narrowed := true }
def ProbeNamesUptoSaid : Prop := probeNamesUptoRow.holds Try.pinned (OpenSpec.upto probeNamesSpec)

/-- 'cofferlaw15.ProbeQuotes', WHERE WHAT IT READS IS OF BULK AT MOST 1048576: true; the input reads as it did. -/
def probeQuotesUptoRow : OpenClaim := { program := "ytkpgklkplmljdaa", sum := "3ceb59e8d820478b15d07471a27458f41299c37f35cfb1056946f1c18e5e33d7", func := "coffer/cofferlaw15.ProbeQuotes", spec := "probeQuotes", inPlace := ["internal/abi.NoEscape"], apart := false, narrowed := true }
def ProbeQuotesUptoSaid : Prop := probeQuotesUptoRow.holds Try.pinned (OpenSpec.upto probeQuotesSpec)

/-- 'cofferlaw15.ProbeOrders', WHERE WHAT IT READS IS OF BULK AT MOST 1048576: true; the input reads as it did. -/
def probeOrdersUptoRow : OpenClaim := { program := "ytkpgklkplmljdaa", sum := "3ceb59e8d820478b15d07471a27458f41299c37f35cfb1056946f1c18e5e33d7", func := "coffer/cofferlaw15.ProbeOrders", spec := "probeOrders", recurses := true, apart := false, narrowed := true }
def ProbeOrdersUptoSaid : Prop := probeOrdersUptoRow.holds Try.pinned (OpenSpec.upto probeOrdersSpec)

end Rows
end Go.Proofs.Ytkpgklkplmljdaa
