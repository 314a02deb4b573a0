/-
  DERIVED. GIVEN WITH THE SEED: THE CARDS: each row of YtpmbfibjldnaiaaGreatDoorRows.lean that lists a variable, with what it lists TIED to the program's text (the seventh form; the later family's looks); each row that meets fmt, with fmt's text TOLD by the authors' own Lean function (tested against real Go, not proved from fmt's source: count such statements apart). THE CARD IS WHAT COUNTS. Prove the row's statement (the work); the ties are given (YtpmbfibjldnaiaaGreatDoorTie.lean); close each card by the builder's one call (the guide's Derived/Test/ToyasCard.lean, 'card_holds'). Laid BY PROGRAM, IN A SANDBOX (cutbox-door.mjs). By AI agents, Wed Nov 11 2026. No macro, syntax, notation, axiom, sorry.
-/
import Derived.Test.YtpmbfibjldnaiaaGreatDoorRows
import GoSem.ClaimSeven
namespace Go.Proofs.YtpmbfibjldnaiaaGreatDoor
namespace Rows

/-- THE TIED CARD OF 'cofferlaw15.ProbeCovers'. -/
def probeCoversCard : Claim7 := { stood := { row := probeCoversRow, standIns := [], harness := (true, "6046e2ed8f7a441dd484a5be8205320d7170e517d22fb5e5cf0470051d4d2886"), looks := false }, kinds := [], alts := [], laidByText := true, laidKinds := [.data, .data, .data, .data, .data, .widerDeep, .pinned], laidTests := true, laidLooks := .later }
def ProbeCoversCardSaid : Prop := Claim7.holds Tryz.pinned (.plain (OpenSpec.ofChange probeCoversSpec)) probeCoversCard

/-- THE TIED CARD OF 'cofferlaw15.ProbeSpots'. -/
def probeSpotsCard : Claim7 := { stood := { row := probeSpotsRow, standIns := [], harness := (true, "6046e2ed8f7a441dd484a5be8205320d7170e517d22fb5e5cf0470051d4d2886"), looks := false }, kinds := [], alts := [], laidByText := true, laidKinds := [.data, .data, .data, .data, .data, .data, .widerDeep, .pinned], laidTests := true, laidLooks := .later }
def ProbeSpotsCardSaid : Prop := Claim7.holds Tryz.pinned (.plain (OpenSpec.ofChange probeSpotsSpec)) probeSpotsCard

/-- THE SECOND FORM's CARD OF 'cofferlaw15.ProbeCovers'. -/
def probeCoversUptoCard : Claim7 := { stood := { row := probeCoversUptoRow, standIns := [], harness := (true, "6046e2ed8f7a441dd484a5be8205320d7170e517d22fb5e5cf0470051d4d2886"), looks := false }, kinds := [], alts := [], laidByText := true, laidKinds := [.data, .data, .data, .data, .data, .widerDeep, .pinned], laidTests := true, laidLooks := .later }
def ProbeCoversUptoCardSaid : Prop := Claim7.holds Tryz.pinned (.plain (OpenSpec.upto probeCoversSpec)) probeCoversUptoCard

/-- THE SECOND FORM's CARD OF 'cofferlaw15.ProbeSpots'. -/
def probeSpotsUptoCard : Claim7 := { stood := { row := probeSpotsUptoRow, standIns := [], harness := (true, "6046e2ed8f7a441dd484a5be8205320d7170e517d22fb5e5cf0470051d4d2886"), looks := false }, kinds := [], alts := [], laidByText := true, laidKinds := [.data, .data, .data, .data, .data, .data, .widerDeep, .pinned], laidTests := true, laidLooks := .later }
def ProbeSpotsUptoCardSaid : Prop := Claim7.holds Tryz.pinned (.plain (OpenSpec.upto probeSpotsSpec)) probeSpotsUptoCard
end Rows
end Go.Proofs.YtpmbfibjldnaiaaGreatDoor
