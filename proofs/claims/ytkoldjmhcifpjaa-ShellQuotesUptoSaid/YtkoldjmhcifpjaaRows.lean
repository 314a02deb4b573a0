/-
  No cell of these rows narrows 'for every input' (looked for: loops, veiled, ifaces, maps, wideKeys, modest, calm, conditions, laid).
  DERIVED. THE GIVEN ROWS OF THIS SEAT. 3 by the template 'for every input the law returns true; each argument reads behind the call as it read before'; 0 by the template 'total and deterministic' (their statements: YtkoldjmhcifpjaaTotals.lean).
  GIVEN WITH THE SEED: the statements are not yours to turn. If you find one false, say at which input.
  Laid BY PROGRAM, IN A SANDBOX (cutbox-rows.mjs): the forced cells as the released guide's own fill.sh prints them over the translation 1dfff112b986a606… (all of the seat's roots in one cut). By AI agents, Wed Nov 11 2026. No macro, syntax, notation, axiom, sorry.
-/
import Derived.Test.YtkoldjmhcifpjaaChecked
import GoSem.Claim
import GoSem.ClaimJoined
import GoSem.ClaimMapViews
import Derived.JoinedTies
import Derived.KernelRfl
namespace Go.Proofs.Ytkoldjmhcifpjaa
/- THE CELL 'sum', in the pinned program and in every row, IS THE sha256 OF THE DUMP (.gsa) THAT YtkoldjmhcifpjaaProg.lean LOADS. Nothing in Lean hashes anything: it is a label: what it is worth is what the hold of that sum in a sandbox is worth. -/
noncomputable def Try.pinned : Pinned := { name := "ytkoldjmhcifpjaa", sum := "1dfff112b986a606b5d1b039cec39be905c33542ecaa0c3fd4705cd55ac49b1b", checked := Try.checked }
namespace Rows
def none {H : Type} : Left H := { results := [], args := [] }

/-- 'cofferlaw16.ShellNames': WHATEVER THE INPUT: true; the input reads as it did. -/
def shellNamesSpec : ChangeSpec := { name := "shellNames", fn := fun _ => fun
  | [] => { results := [.lit (.bool true)], args := [] }
  | _ => none }
def shellNamesRow : OpenClaim := { program := "ytkoldjmhcifpjaa", sum := "1dfff112b986a606b5d1b039cec39be905c33542ecaa0c3fd4705cd55ac49b1b", func := "coffer/cofferlaw16.ShellNames", spec := "shellNames", apart := false }
def ShellNamesSaid : Prop := shellNamesRow.holds Try.pinned (OpenSpec.ofChange shellNamesSpec)

/-- ITS FALSE NEIGHBOUR: 'it returns false'. Refute it at one input. -/
def shellNamesWrong : ChangeSpec := { name := "shellNames", fn := fun _ => fun
  | [] => { results := [.lit (.bool false)], args := [] }
  | _ => none }
def ShellNamesWrongFalsely : Prop := shellNamesRow.holds Try.pinned (OpenSpec.ofChange shellNamesWrong)

/-- 'cofferlaw16.ShellReads': WHATEVER THE INPUT: true; the input reads as it did. -/
def shellReadsSpec : ChangeSpec := { name := "shellReads", fn := fun _ => fun
  | [d1, d2] => { results := [.lit (.bool true)], args := [d1, d2] }
  | _ => none }
def shellReadsRow : OpenClaim := { program := "ytkoldjmhcifpjaa", sum := "1dfff112b986a606b5d1b039cec39be905c33542ecaa0c3fd4705cd55ac49b1b", func := "coffer/cofferlaw16.ShellReads", spec := "shellReads", inPlace := ["internal/bytealg.IndexByteString", "internal/abi.NoEscape"], unfollowed := true, recurses := true, apart := false }
def ShellReadsSaid : Prop := shellReadsRow.holds Try.pinned (OpenSpec.ofChange shellReadsSpec)

/-- ITS FALSE NEIGHBOUR: 'it returns false'. Refute it at one input. -/
def shellReadsWrong : ChangeSpec := { name := "shellReads", fn := fun _ => fun
  | [d1, d2] => { results := [.lit (.bool false)], args := [d1, d2] }
  | _ => none }
def ShellReadsWrongFalsely : Prop := shellReadsRow.holds Try.pinned (OpenSpec.ofChange shellReadsWrong)

/-- 'cofferlaw16.ShellQuotes': WHATEVER THE INPUT: true; the input reads as it did. -/
def shellQuotesSpec : ChangeSpec := { name := "shellQuotes", fn := fun _ => fun
  | [d] => { results := [.lit (.bool true)], args := [d] }
  | _ => none }
def shellQuotesRow : OpenClaim := { program := "ytkoldjmhcifpjaa", sum := "1dfff112b986a606b5d1b039cec39be905c33542ecaa0c3fd4705cd55ac49b1b", func := "coffer/cofferlaw16.ShellQuotes", spec := "shellQuotes", inPlace := ["internal/abi.NoEscape", "internal/bytealg.IndexByteString"], unfollowed := true, recurses := true, apart := false }
def ShellQuotesSaid : Prop := shellQuotesRow.holds Try.pinned (OpenSpec.ofChange shellQuotesSpec)

/-- ITS FALSE NEIGHBOUR: 'it returns false'. Refute it at one input. -/
def shellQuotesWrong : ChangeSpec := { name := "shellQuotes", fn := fun _ => fun
  | [d] => { results := [.lit (.bool false)], args := [d] }
  | _ => none }
def ShellQuotesWrongFalsely : Prop := shellQuotesRow.holds Try.pinned (OpenSpec.ofChange shellQuotesWrong)

/- THE SECOND FORM. 'bulk': how many values and letters a reading holds, each counted each time it is reached (what is shared counts as often as it is met; a slice's spare places count too). A statement '..UptoSaid' is the law's where the arguments, and the package variables that the reading takes, are together of bulk at most 1048576: NARROWER than '..Said'. Prove '..Said' where nothing that the law and all that it calls make is longer than what came in: it says more and counts as full. Else prove '..UptoSaid'. A law counts once. -/
mutual
def uptoBulk {H : Type} : DataW H → Nat
  | .lit (.string bytes) => bytes.length + 1
  | .lit _ => 1
  | .nil => 1
  | .ptr d => uptoBulk d + 1
  | .slice elems spare => uptoBulkAll elems + uptoBulkAll spare + 1
  | .agg parts => uptoBulkAll parts + 1
  | .iface _ d => uptoBulk d + 1
  | .map entries => uptoBulkEntries entries + 1
  | .held _ => 1
def uptoBulkAll {H : Type} : List (DataW H) → Nat
  | [] => 0
  | d :: r => uptoBulk d + uptoBulkAll r
def uptoBulkEntries {H : Type} : List (Lit × DataW H) → Nat
  | [] => 0
  | x :: r => uptoBulkEntry x + uptoBulkEntries r
def uptoBulkEntry {H : Type} : Lit × DataW H → Nat
  | (.string bytes, d) => bytes.length + uptoBulk d + 1
  | (_, d) => uptoBulk d + 1
 end
def uptoSmall : (H : Type) → List (DataW H) → Bool := fun _ ds => decide (uptoBulkAll ds ≤ 1048576)
def OpenSpec.upto (s : _root_.Go.ChangeSpec) : _root_.Go.OpenSpec := { _root_.Go.OpenSpec.ofChange s with cond := some uptoSmall }

/-- 'cofferlaw16.ShellNames', WHERE WHAT IT READS IS OF BULK AT MOST 1048576: true; the input reads as it did. -/
def shellNamesUptoRow : OpenClaim := { program := "ytkoldjmhcifpjaa", sum := "1dfff112b986a606b5d1b039cec39be905c33542ecaa0c3fd4705cd55ac49b1b", func := "coffer/cofferlaw16.ShellNames", spec := "shellNames", apart := false, narrowed := true }
def ShellNamesUptoSaid : Prop := shellNamesUptoRow.holds Try.pinned (OpenSpec.upto shellNamesSpec)

/-- 'cofferlaw16.ShellReads', WHERE WHAT IT READS IS OF BULK AT MOST 1048576: true; the input reads as it did. -/
def shellReadsUptoRow : OpenClaim := { program := "ytkoldjmhcifpjaa", sum := "1dfff112b986a606b5d1b039cec39be905c33542ecaa0c3fd4705cd55ac49b1b", func := "coffer/cofferlaw16.ShellReads", spec := "shellReads", inPlace := ["internal/bytealg.IndexByteString", "internal/abi.NoEscape"], unfollowed := true, recurses := true, apart := false, narrowed := true }
def ShellReadsUptoSaid : Prop := shellReadsUptoRow.holds Try.pinned (OpenSpec.upto shellReadsSpec)

/-- 'cofferlaw16.ShellQuotes', WHERE WHAT IT READS IS OF BULK AT MOST 1048576: true; the input reads as it did. -/
def shellQuotesUptoRow : OpenClaim := { program := "ytkoldjmhcifpjaa", sum := "1dfff112b986a606b5d1b039cec39be905c33542ecaa0c3fd4705cd55ac49b1b", func := "coffer/cofferlaw16.ShellQuotes", spec := "shellQuotes", inPlace := ["internal/abi.NoEscape", "internal/bytealg.IndexByteString"], unfollowed := true, recurses := true, apart := false, narrowed := true }
def ShellQuotesUptoSaid : Prop := shellQuotesUptoRow.holds Try.pinned (OpenSpec.upto shellQuotesSpec)

end Rows
end Go.Proofs.Ytkoldjmhcifpjaa
