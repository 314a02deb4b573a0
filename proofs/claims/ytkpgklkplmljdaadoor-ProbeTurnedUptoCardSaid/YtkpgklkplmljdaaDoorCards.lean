/-
  DERIVED. GIVEN WITH THE SEED: THE CARDS: each row of YtkpgklkplmljdaaDoorRows.lean that lists a variable, with what it lists TIED to the program's text (the seventh form; the later family's looks); each row that meets fmt, with fmt's text TOLD by the authors' own Lean function (tested against real Go, not proved from fmt's source: count such statements apart). THE CARD IS WHAT COUNTS. Prove the row's statement (the work); the ties are given (YtkpgklkplmljdaaDoorTie.lean); close each card by the builder's one call (the guide's Derived/Test/ToyasCard.lean, 'card_holds'). Laid BY PROGRAM, IN A SANDBOX (cutbox-door.mjs). By AI agents, Wed Nov 11 2026. No macro, syntax, notation, axiom, sorry.
-/
import Derived.Test.YtkpgklkplmljdaaDoorRows
import GoSem.ClaimSeven
namespace Go.Proofs.YtkpgklkplmljdaaDoor
namespace Rows

/-- THE TIED CARD OF 'cofferlaw15.ProbeTurned'. -/
def probeTurnedCard : Claim7 := { stood := { row := probeTurnedRow, standIns := [], harness := (true, "044299cc73d974f49ace8c2091fc28754f5cb16e7b9d554bd5be815620921d33"), looks := false }, kinds := [], alts := [], laidByText := true, laidKinds := [.data, .data, .data], laidTests := true, laidLooks := .later }
def ProbeTurnedCardSaid : Prop := Claim7.holds Tryd.pinned (.plain (OpenSpec.ofChange probeTurnedSpec)) probeTurnedCard

/-- THE TIED CARD OF 'cofferlaw15.ProbeCompares'. -/
def probeComparesCard : Claim7 := { stood := { row := probeComparesRow, standIns := [], harness := (true, "044299cc73d974f49ace8c2091fc28754f5cb16e7b9d554bd5be815620921d33"), looks := false }, kinds := [], alts := [], laidByText := true, laidKinds := [.data, .data, .data], laidTests := true, laidLooks := .later }
def ProbeComparesCardSaid : Prop := Claim7.holds Tryd.pinned (.plain (OpenSpec.ofChange probeComparesSpec)) probeComparesCard

/-- THE SECOND FORM's CARD OF 'cofferlaw15.ProbeTurned'. -/
def probeTurnedUptoCard : Claim7 := { stood := { row := probeTurnedUptoRow, standIns := [], harness := (true, "044299cc73d974f49ace8c2091fc28754f5cb16e7b9d554bd5be815620921d33"), looks := false }, kinds := [], alts := [], laidByText := true, laidKinds := [.data, .data, .data], laidTests := true, laidLooks := .later }
def ProbeTurnedUptoCardSaid : Prop := Claim7.holds Tryd.pinned (.plain (OpenSpec.upto probeTurnedSpec)) probeTurnedUptoCard

/-- THE SECOND FORM's CARD OF 'cofferlaw15.ProbeCompares'. -/
def probeComparesUptoCard : Claim7 := { stood := { row := probeComparesUptoRow, standIns := [], harness := (true, "044299cc73d974f49ace8c2091fc28754f5cb16e7b9d554bd5be815620921d33"), looks := false }, kinds := [], alts := [], laidByText := true, laidKinds := [.data, .data, .data], laidTests := true, laidLooks := .later }
def ProbeComparesUptoCardSaid : Prop := Claim7.holds Tryd.pinned (.plain (OpenSpec.upto probeComparesSpec)) probeComparesUptoCard
end Rows
end Go.Proofs.YtkpgklkplmljdaaDoor
