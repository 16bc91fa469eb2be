/-
  DERIVED. GIVEN WITH THE SEED: THE CARDS: each row of YtaoffekhpjgmdaaDoorRows.lean that lists a variable, with what it lists TIED to the program's text (the seventh form; the later family's looks); each row that meets fmt, with fmt's text TOLD by the authors' own Lean function (tested against real Go, not proved from fmt's source: count such statements apart). THE CARD IS WHAT COUNTS. Prove the row's statement (the work); the ties are given (YtaoffekhpjgmdaaDoorTie.lean); close each card by the builder's one call (the guide's Derived/Test/ToyasCard.lean, 'card_holds'). Laid BY PROGRAM, IN A SANDBOX (cutbox-door.mjs). By AI agents, Wed Nov 11 2026. No macro, syntax, notation, axiom, sorry.
-/
import Derived.Test.YtaoffekhpjgmdaaDoorRows
import GoSem.ClaimSeven
namespace Go.Proofs.YtaoffekhpjgmdaaDoor
namespace Rows

/-- THE TIED CARD OF 'tetherpostlaw.ClientWaits'. -/
def clientWaitsCard : Claim7 := { stood := { row := clientWaitsRow, standIns := [], harness := (true, "6bcfab936ef8829d40e13b170b9b8ee70c1192f9551cf1d3a5b883575e0d19e6"), looks := false }, kinds := [], alts := [], laidByText := true, laidKinds := [.data, .data, .data, .data, .pinned], laidTests := true, laidLooks := .later }
def ClientWaitsCardSaid : Prop := Claim7.holds Tryd.pinned (.plain (OpenSpec.ofChange clientWaitsSpec)) clientWaitsCard

/-- THE TIED CARD OF 'tetherpostlaw.ClientSays'. -/
def clientSaysCard : Claim7 := { stood := { row := clientSaysRow, standIns := [], harness := (true, "6bcfab936ef8829d40e13b170b9b8ee70c1192f9551cf1d3a5b883575e0d19e6"), looks := false }, kinds := [], alts := [], laidByText := true, laidKinds := [.data, .data, .data, .data, .pinned], laidTests := true, laidLooks := .later }
def ClientSaysCardSaid : Prop := Claim7.holds Tryd.pinned (.plain (OpenSpec.ofChange clientSaysSpec)) clientSaysCard

/-- THE SECOND FORM's CARD OF 'tetherpostlaw.ClientWaits'. -/
def clientWaitsUptoCard : Claim7 := { stood := { row := clientWaitsUptoRow, standIns := [], harness := (true, "6bcfab936ef8829d40e13b170b9b8ee70c1192f9551cf1d3a5b883575e0d19e6"), looks := false }, kinds := [], alts := [], laidByText := true, laidKinds := [.data, .data, .data, .data, .pinned], laidTests := true, laidLooks := .later }
def ClientWaitsUptoCardSaid : Prop := Claim7.holds Tryd.pinned (.plain (OpenSpec.upto clientWaitsSpec)) clientWaitsUptoCard

/-- THE SECOND FORM's CARD OF 'tetherpostlaw.ClientSays'. -/
def clientSaysUptoCard : Claim7 := { stood := { row := clientSaysUptoRow, standIns := [], harness := (true, "6bcfab936ef8829d40e13b170b9b8ee70c1192f9551cf1d3a5b883575e0d19e6"), looks := false }, kinds := [], alts := [], laidByText := true, laidKinds := [.data, .data, .data, .data, .pinned], laidTests := true, laidLooks := .later }
def ClientSaysUptoCardSaid : Prop := Claim7.holds Tryd.pinned (.plain (OpenSpec.upto clientSaysSpec)) clientSaysUptoCard
end Rows
end Go.Proofs.YtaoffekhpjgmdaaDoor
