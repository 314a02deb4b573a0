/-
  DERIVED. GIVEN WITH THE SEED: THE CARDS: each row of YtglcapkmeecknaaDoorRows.lean that lists a variable, with what it lists TIED to the program's text (the seventh form; the later family's looks); each row that meets fmt, with fmt's text TOLD by the authors' own Lean function (tested against real Go, not proved from fmt's source: count such statements apart). THE CARD IS WHAT COUNTS. Prove the row's statement (the work); the ties are given (YtglcapkmeecknaaDoorTie.lean); close each card by the builder's one call (the guide's Derived/Test/ToyasCard.lean, 'card_holds'). Laid BY PROGRAM, IN A SANDBOX (cutbox-door.mjs). By AI agents, Wed Nov 11 2026. No macro, syntax, notation, axiom, sorry.
-/
import Derived.Test.YtglcapkmeecknaaDoorRows
import GoSem.ClaimSeven
namespace Go.Proofs.YtglcapkmeecknaaDoor
namespace Rows

/-- THE TIED CARD OF 'cofferlaw08.HeaderPacks'. -/
def headerPacksCard : Claim7 := { stood := { row := headerPacksRow, standIns := [], harness := (true, "c48a2f914cd75c87b99a888ea6f71616e9ed5bda726f07da62302fcd75700a68"), looks := false }, kinds := [], alts := [], laidByText := true, laidKinds := [.data, .data, .data, .data, .data], laidTests := true, laidLooks := .later }
def HeaderPacksCardSaid : Prop := Claim7.holds Tryd.pinned (.plain (OpenSpec.ofChange headerPacksSpec)) headerPacksCard

/-- THE TIED CARD OF 'cofferlaw08.HeaderUnpacks'. -/
def headerUnpacksCard : Claim7 := { stood := { row := headerUnpacksRow, standIns := [], harness := (true, "c48a2f914cd75c87b99a888ea6f71616e9ed5bda726f07da62302fcd75700a68"), looks := false }, kinds := [], alts := [], laidByText := true, laidKinds := [.data, .data, .data, .data, .data, .data, .pinned], laidTests := true, laidLooks := .later }
def HeaderUnpacksCardSaid : Prop := Claim7.holds Tryd.pinned (.plain (OpenSpec.ofChange headerUnpacksSpec)) headerUnpacksCard

/-- THE TIED CARD OF 'cofferlaw08.HeaderBack'. -/
def headerBackCard : Claim7 := { stood := { row := headerBackRow, standIns := [], harness := (true, "c48a2f914cd75c87b99a888ea6f71616e9ed5bda726f07da62302fcd75700a68"), looks := false }, kinds := [], alts := [], laidByText := true, laidKinds := [.data, .data, .data, .data, .pinned], laidTests := true, laidLooks := .later }
def HeaderBackCardSaid : Prop := Claim7.holds Tryd.pinned (.plain (OpenSpec.ofChange headerBackSpec)) headerBackCard

/-- THE SECOND FORM's CARD OF 'cofferlaw08.HeaderPacks'. -/
def headerPacksUptoCard : Claim7 := { stood := { row := headerPacksUptoRow, standIns := [], harness := (true, "c48a2f914cd75c87b99a888ea6f71616e9ed5bda726f07da62302fcd75700a68"), looks := false }, kinds := [], alts := [], laidByText := true, laidKinds := [.data, .data, .data, .data, .data], laidTests := true, laidLooks := .later }
def HeaderPacksUptoCardSaid : Prop := Claim7.holds Tryd.pinned (.plain (OpenSpec.upto headerPacksSpec)) headerPacksUptoCard

/-- THE SECOND FORM's CARD OF 'cofferlaw08.HeaderUnpacks'. -/
def headerUnpacksUptoCard : Claim7 := { stood := { row := headerUnpacksUptoRow, standIns := [], harness := (true, "c48a2f914cd75c87b99a888ea6f71616e9ed5bda726f07da62302fcd75700a68"), looks := false }, kinds := [], alts := [], laidByText := true, laidKinds := [.data, .data, .data, .data, .data, .data, .pinned], laidTests := true, laidLooks := .later }
def HeaderUnpacksUptoCardSaid : Prop := Claim7.holds Tryd.pinned (.plain (OpenSpec.upto headerUnpacksSpec)) headerUnpacksUptoCard

/-- THE SECOND FORM's CARD OF 'cofferlaw08.HeaderBack'. -/
def headerBackUptoCard : Claim7 := { stood := { row := headerBackUptoRow, standIns := [], harness := (true, "c48a2f914cd75c87b99a888ea6f71616e9ed5bda726f07da62302fcd75700a68"), looks := false }, kinds := [], alts := [], laidByText := true, laidKinds := [.data, .data, .data, .data, .pinned], laidTests := true, laidLooks := .later }
def HeaderBackUptoCardSaid : Prop := Claim7.holds Tryd.pinned (.plain (OpenSpec.upto headerBackSpec)) headerBackUptoCard
end Rows
end Go.Proofs.YtglcapkmeecknaaDoor
