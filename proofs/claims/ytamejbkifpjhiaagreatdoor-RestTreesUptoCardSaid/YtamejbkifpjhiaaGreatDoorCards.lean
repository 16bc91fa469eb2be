/-
  DERIVED. GIVEN WITH THE SEED: THE CARDS: each row of YtamejbkifpjhiaaGreatDoorRows.lean that lists a variable, with what it lists TIED to the program's text (the seventh form; the later family's looks); each row that meets fmt, with fmt's text TOLD by the authors' own Lean function (tested against real Go, not proved from fmt's source: count such statements apart). THE CARD IS WHAT COUNTS. Prove the row's statement (the work); the ties are given (YtamejbkifpjhiaaGreatDoorTie.lean); close each card by the builder's one call (the guide's Derived/Test/ToyasCard.lean, 'card_holds'). Laid BY PROGRAM, IN A SANDBOX (cutbox-door.mjs). By AI agents, Wed Nov 11 2026. No macro, syntax, notation, axiom, sorry.
-/
import Derived.Test.YtamejbkifpjhiaaGreatDoorRows
import GoSem.ClaimSeven
namespace Go.Proofs.YtamejbkifpjhiaaGreatDoor
namespace Rows

/-- THE TIED CARD OF 'tetherpostlaw.RestJournals'. -/
def restJournalsCard : Claim7 := { stood := { row := restJournalsRow, standIns := [], harness := (true, "42b728aefecc0afc03273dba0bee3e0acc5d116e535fbed52f7db81d4faf7c9d"), looks := true }, kinds := [], alts := [], laidByText := true, laidKinds := [.data, .data, .data, .data, .sentinel, .sentinel, .pinned], laidTests := true, laidLooks := .later }
def RestJournalsCardSaid : Prop := Claim7.holds Tryz.pinned (.plain (OpenSpec.ofChange restJournalsSpec)) restJournalsCard

/-- THE TIED CARD OF 'tetherpostlaw.RestTrees'. -/
def restTreesCard : Claim7 := { stood := { row := restTreesRow, standIns := [], harness := (true, "42b728aefecc0afc03273dba0bee3e0acc5d116e535fbed52f7db81d4faf7c9d"), looks := true }, kinds := [], alts := [], laidByText := true, laidKinds := [.data, .data, .data, .data, .pinned], laidTests := true, laidLooks := .later }
def RestTreesCardSaid : Prop := Claim7.holds Tryz.pinned (.plain (OpenSpec.ofChange restTreesSpec)) restTreesCard

/-- THE SECOND FORM's CARD OF 'tetherpostlaw.RestJournals'. -/
def restJournalsUptoCard : Claim7 := { stood := { row := restJournalsUptoRow, standIns := [], harness := (true, "42b728aefecc0afc03273dba0bee3e0acc5d116e535fbed52f7db81d4faf7c9d"), looks := true }, kinds := [], alts := [], laidByText := true, laidKinds := [.data, .data, .data, .data, .sentinel, .sentinel, .pinned], laidTests := true, laidLooks := .later }
def RestJournalsUptoCardSaid : Prop := Claim7.holds Tryz.pinned (.plain (OpenSpec.upto restJournalsSpec)) restJournalsUptoCard

/-- THE SECOND FORM's CARD OF 'tetherpostlaw.RestTrees'. -/
def restTreesUptoCard : Claim7 := { stood := { row := restTreesUptoRow, standIns := [], harness := (true, "42b728aefecc0afc03273dba0bee3e0acc5d116e535fbed52f7db81d4faf7c9d"), looks := true }, kinds := [], alts := [], laidByText := true, laidKinds := [.data, .data, .data, .data, .pinned], laidTests := true, laidLooks := .later }
def RestTreesUptoCardSaid : Prop := Claim7.holds Tryz.pinned (.plain (OpenSpec.upto restTreesSpec)) restTreesUptoCard
end Rows
end Go.Proofs.YtamejbkifpjhiaaGreatDoor
