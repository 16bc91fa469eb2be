/-
  DERIVED. GIVEN WITH THE SEED: THE CARDS: each row of YtahbbnfmbohmmaaDoorRows.lean that lists a variable, with what it lists TIED to the program's text (the seventh form; the later family's looks); each row that meets fmt, with fmt's text TOLD by the authors' own Lean function (tested against real Go, not proved from fmt's source: count such statements apart). THE CARD IS WHAT COUNTS. Prove the row's statement (the work); the ties are given (YtahbbnfmbohmmaaDoorTie.lean); close each card by the builder's one call (the guide's Derived/Test/ToyasCard.lean, 'card_holds'). Laid BY PROGRAM, IN A SANDBOX (cutbox-door.mjs). By AI agents, Wed Nov 11 2026. No macro, syntax, notation, axiom, sorry.
-/
import Derived.Test.YtahbbnfmbohmmaaDoorRows
import GoSem.ClaimSeven
namespace Go.Proofs.YtahbbnfmbohmmaaDoor
namespace Rows

/-- THE TIED CARD OF 'tetherpostlaw.WireAsks'. -/
def wireAsksCard : Claim7 := { stood := { row := wireAsksRow, standIns := [], harness := (true, "7035c830b9bd1e89a3f3d5e99e96521d5bf39908990ff063a05befa3e51d477b"), looks := true }, kinds := [], alts := [], laidByText := true, laidKinds := [.data, .data, .data, .sentinel, .sentinel], laidTests := true, laidLooks := .later }
def WireAsksCardSaid : Prop := Claim7.holds Tryd.pinned (.plain (OpenSpec.ofChange wireAsksSpec)) wireAsksCard

/-- THE TIED CARD OF 'tetherpostlaw.WireAskeds'. -/
def wireAskedsCard : Claim7 := { stood := { row := wireAskedsRow, standIns := [], harness := (true, "7035c830b9bd1e89a3f3d5e99e96521d5bf39908990ff063a05befa3e51d477b"), looks := true }, kinds := [], alts := [], laidByText := true, laidKinds := [.data, .data, .data, .sentinel, .sentinel], laidTests := true, laidLooks := .later }
def WireAskedsCardSaid : Prop := Claim7.holds Tryd.pinned (.plain (OpenSpec.ofChange wireAskedsSpec)) wireAskedsCard

/-- THE TIED CARD OF 'tetherpostlaw.WireTells'. -/
def wireTellsCard : Claim7 := { stood := { row := wireTellsRow, standIns := [], harness := (true, "7035c830b9bd1e89a3f3d5e99e96521d5bf39908990ff063a05befa3e51d477b"), looks := true }, kinds := [], alts := [], laidByText := true, laidKinds := [.data, .data, .data, .sentinel, .sentinel], laidTests := true, laidLooks := .later }
def WireTellsCardSaid : Prop := Claim7.holds Tryd.pinned (.plain (OpenSpec.ofChange wireTellsSpec)) wireTellsCard

/-- THE TIED CARD OF 'tetherpostlaw.WireTolds'. -/
def wireToldsCard : Claim7 := { stood := { row := wireToldsRow, standIns := [], harness := (true, "7035c830b9bd1e89a3f3d5e99e96521d5bf39908990ff063a05befa3e51d477b"), looks := true }, kinds := [], alts := [], laidByText := true, laidKinds := [.data, .data, .data, .sentinel, .sentinel], laidTests := true, laidLooks := .later }
def WireToldsCardSaid : Prop := Claim7.holds Tryd.pinned (.plain (OpenSpec.ofChange wireToldsSpec)) wireToldsCard

/-- THE TIED CARD OF 'tetherpostlaw.WireBack'. -/
def wireBackCard : Claim7 := { stood := { row := wireBackRow, standIns := [], harness := (true, "7035c830b9bd1e89a3f3d5e99e96521d5bf39908990ff063a05befa3e51d477b"), looks := true }, kinds := [], alts := [], laidByText := true, laidKinds := [.data, .data, .data, .sentinel, .sentinel], laidTests := true, laidLooks := .later }
def WireBackCardSaid : Prop := Claim7.holds Tryd.pinned (.plain (OpenSpec.ofChange wireBackSpec)) wireBackCard

/-- THE SECOND FORM's CARD OF 'tetherpostlaw.WireAsks'. -/
def wireAsksUptoCard : Claim7 := { stood := { row := wireAsksUptoRow, standIns := [], harness := (true, "7035c830b9bd1e89a3f3d5e99e96521d5bf39908990ff063a05befa3e51d477b"), looks := true }, kinds := [], alts := [], laidByText := true, laidKinds := [.data, .data, .data, .sentinel, .sentinel], laidTests := true, laidLooks := .later }
def WireAsksUptoCardSaid : Prop := Claim7.holds Tryd.pinned (.plain (OpenSpec.upto wireAsksSpec)) wireAsksUptoCard

/-- THE SECOND FORM's CARD OF 'tetherpostlaw.WireAskeds'. -/
def wireAskedsUptoCard : Claim7 := { stood := { row := wireAskedsUptoRow, standIns := [], harness := (true, "7035c830b9bd1e89a3f3d5e99e96521d5bf39908990ff063a05befa3e51d477b"), looks := true }, kinds := [], alts := [], laidByText := true, laidKinds := [.data, .data, .data, .sentinel, .sentinel], laidTests := true, laidLooks := .later }
def WireAskedsUptoCardSaid : Prop := Claim7.holds Tryd.pinned (.plain (OpenSpec.upto wireAskedsSpec)) wireAskedsUptoCard

/-- THE SECOND FORM's CARD OF 'tetherpostlaw.WireTells'. -/
def wireTellsUptoCard : Claim7 := { stood := { row := wireTellsUptoRow, standIns := [], harness := (true, "7035c830b9bd1e89a3f3d5e99e96521d5bf39908990ff063a05befa3e51d477b"), looks := true }, kinds := [], alts := [], laidByText := true, laidKinds := [.data, .data, .data, .sentinel, .sentinel], laidTests := true, laidLooks := .later }
def WireTellsUptoCardSaid : Prop := Claim7.holds Tryd.pinned (.plain (OpenSpec.upto wireTellsSpec)) wireTellsUptoCard

/-- THE SECOND FORM's CARD OF 'tetherpostlaw.WireTolds'. -/
def wireToldsUptoCard : Claim7 := { stood := { row := wireToldsUptoRow, standIns := [], harness := (true, "7035c830b9bd1e89a3f3d5e99e96521d5bf39908990ff063a05befa3e51d477b"), looks := true }, kinds := [], alts := [], laidByText := true, laidKinds := [.data, .data, .data, .sentinel, .sentinel], laidTests := true, laidLooks := .later }
def WireToldsUptoCardSaid : Prop := Claim7.holds Tryd.pinned (.plain (OpenSpec.upto wireToldsSpec)) wireToldsUptoCard

/-- THE SECOND FORM's CARD OF 'tetherpostlaw.WireBack'. -/
def wireBackUptoCard : Claim7 := { stood := { row := wireBackUptoRow, standIns := [], harness := (true, "7035c830b9bd1e89a3f3d5e99e96521d5bf39908990ff063a05befa3e51d477b"), looks := true }, kinds := [], alts := [], laidByText := true, laidKinds := [.data, .data, .data, .sentinel, .sentinel], laidTests := true, laidLooks := .later }
def WireBackUptoCardSaid : Prop := Claim7.holds Tryd.pinned (.plain (OpenSpec.upto wireBackSpec)) wireBackUptoCard
end Rows
end Go.Proofs.YtahbbnfmbohmmaaDoor
