/-
  DERIVED. GIVEN WITH THE SEED: THE CARDS: each row of YtpeenheeakhlgaaDoorRows.lean that lists a variable, with what it lists TIED to the program's text (the seventh form; the later family's looks); each row that meets fmt, with fmt's text TOLD by the authors' own Lean function (tested against real Go, not proved from fmt's source: count such statements apart). THE CARD IS WHAT COUNTS. Prove the row's statement (the work); the ties are given (YtpeenheeakhlgaaDoorTie.lean); close each card by the builder's one call (the guide's Derived/Test/ToyasCard.lean, 'card_holds'). Laid BY PROGRAM, IN A SANDBOX (cutbox-door.mjs). By AI agents, Wed Nov 11 2026. No macro, syntax, notation, axiom, sorry.
-/
import Derived.Test.YtpeenheeakhlgaaDoorRows
import GoSem.ClaimSeven
namespace Go.Proofs.YtpeenheeakhlgaaDoor
namespace Rows

/-- THE TIED CARD OF 'tetherpostlaw.DeltaDiffs'. -/
def deltaDiffsCard : Claim7 := { stood := { row := deltaDiffsRow, standIns := [], harness := (true, "0b3f521699b65e26cf315c25916ab8ee5d6f8ed5e77130359b78ddc2547b62e7"), looks := false }, kinds := [], alts := [], laidByText := true, laidKinds := [.data, .pinned], laidTests := true, laidLooks := .later }
def DeltaDiffsCardSaid : Prop := Claim7.holds Tryd.pinned (.plain (OpenSpec.ofChange deltaDiffsSpec)) deltaDiffsCard

/-- THE TIED CARD OF 'tetherpostlaw.DeltaSame'. -/
def deltaSameCard : Claim7 := { stood := { row := deltaSameRow, standIns := [], harness := (true, "0b3f521699b65e26cf315c25916ab8ee5d6f8ed5e77130359b78ddc2547b62e7"), looks := false }, kinds := [], alts := [], laidByText := true, laidKinds := [.data, .pinned], laidTests := true, laidLooks := .later }
def DeltaSameCardSaid : Prop := Claim7.holds Tryd.pinned (.plain (OpenSpec.ofChange deltaSameSpec)) deltaSameCard

/-- THE TIED CARD OF 'tetherpostlaw.TreeApplies'. -/
def treeAppliesCard : Claim7 := { stood := { row := treeAppliesRow, standIns := [], harness := (true, "0b3f521699b65e26cf315c25916ab8ee5d6f8ed5e77130359b78ddc2547b62e7"), looks := false }, kinds := [], alts := [], laidByText := true, laidKinds := [.data, .pinned], laidTests := true, laidLooks := .later }
def TreeAppliesCardSaid : Prop := Claim7.holds Tryd.pinned (.plain (OpenSpec.ofChange treeAppliesSpec)) treeAppliesCard

/-- THE TIED CARD OF 'tetherpostlaw.TreeAlls'. -/
def treeAllsCard : Claim7 := { stood := { row := treeAllsRow, standIns := [], harness := (true, "0b3f521699b65e26cf315c25916ab8ee5d6f8ed5e77130359b78ddc2547b62e7"), looks := false }, kinds := [], alts := [], laidByText := true, laidKinds := [.data, .pinned], laidTests := true, laidLooks := .later }
def TreeAllsCardSaid : Prop := Claim7.holds Tryd.pinned (.plain (OpenSpec.ofChange treeAllsSpec)) treeAllsCard

/-- THE TIED CARD OF 'tetherpostlaw.TreeBack'. -/
def treeBackCard : Claim7 := { stood := { row := treeBackRow, standIns := [], harness := (true, "0b3f521699b65e26cf315c25916ab8ee5d6f8ed5e77130359b78ddc2547b62e7"), looks := false }, kinds := [], alts := [], laidByText := true, laidKinds := [.data, .pinned], laidTests := true, laidLooks := .later }
def TreeBackCardSaid : Prop := Claim7.holds Tryd.pinned (.plain (OpenSpec.ofChange treeBackSpec)) treeBackCard

/-- THE TIED CARD OF 'tetherpostlaw.TreeStale'. -/
def treeStaleCard : Claim7 := { stood := { row := treeStaleRow, standIns := [], harness := (true, "0b3f521699b65e26cf315c25916ab8ee5d6f8ed5e77130359b78ddc2547b62e7"), looks := false }, kinds := [], alts := [], laidByText := true, laidKinds := [.data, .pinned], laidTests := true, laidLooks := .later }
def TreeStaleCardSaid : Prop := Claim7.holds Tryd.pinned (.plain (OpenSpec.ofChange treeStaleSpec)) treeStaleCard

/-- THE TIED CARD OF 'tetherpostlaw.TreeChecks'. -/
def treeChecksCard : Claim7 := { stood := { row := treeChecksRow, standIns := [], harness := (true, "0b3f521699b65e26cf315c25916ab8ee5d6f8ed5e77130359b78ddc2547b62e7"), looks := false }, kinds := [], alts := [], laidByText := true, laidKinds := [.data, .pinned], laidTests := true, laidLooks := .later }
def TreeChecksCardSaid : Prop := Claim7.holds Tryd.pinned (.plain (OpenSpec.ofChange treeChecksSpec)) treeChecksCard

/-- THE TIED CARD OF 'tetherpostlaw.TreeFinds'. -/
def treeFindsCard : Claim7 := { stood := { row := treeFindsRow, standIns := [], harness := (true, "0b3f521699b65e26cf315c25916ab8ee5d6f8ed5e77130359b78ddc2547b62e7"), looks := false }, kinds := [], alts := [], laidByText := true, laidKinds := [.data, .pinned], laidTests := true, laidLooks := .later }
def TreeFindsCardSaid : Prop := Claim7.holds Tryd.pinned (.plain (OpenSpec.ofChange treeFindsSpec)) treeFindsCard

/-- THE TIED CARD OF 'tetherpostlaw.TreeGoes'. -/
def treeGoesCard : Claim7 := { stood := { row := treeGoesRow, standIns := [], harness := (true, "0b3f521699b65e26cf315c25916ab8ee5d6f8ed5e77130359b78ddc2547b62e7"), looks := false }, kinds := [], alts := [], laidByText := true, laidKinds := [.data, .pinned], laidTests := true, laidLooks := .later }
def TreeGoesCardSaid : Prop := Claim7.holds Tryd.pinned (.plain (OpenSpec.ofChange treeGoesSpec)) treeGoesCard

/-- THE TIED CARD OF 'tetherpostlaw.DeltaPatches'. -/
def deltaPatchesCard : Claim7 := { stood := { row := deltaPatchesRow, standIns := [], harness := (true, "0b3f521699b65e26cf315c25916ab8ee5d6f8ed5e77130359b78ddc2547b62e7"), looks := false }, kinds := [], alts := [], laidByText := true, laidKinds := [.data, .pinned], laidTests := true, laidLooks := .later }
def DeltaPatchesCardSaid : Prop := Claim7.holds Tryd.pinned (.plain (OpenSpec.ofChange deltaPatchesSpec)) deltaPatchesCard

/-- THE TIED CARD OF 'tetherpostlaw.DeltaBack'. -/
def deltaBackCard : Claim7 := { stood := { row := deltaBackRow, standIns := [], harness := (true, "0b3f521699b65e26cf315c25916ab8ee5d6f8ed5e77130359b78ddc2547b62e7"), looks := false }, kinds := [], alts := [], laidByText := true, laidKinds := [.data, .pinned], laidTests := true, laidLooks := .later }
def DeltaBackCardSaid : Prop := Claim7.holds Tryd.pinned (.plain (OpenSpec.ofChange deltaBackSpec)) deltaBackCard

/-- THE SECOND FORM's CARD OF 'tetherpostlaw.DeltaDiffs'. -/
def deltaDiffsUptoCard : Claim7 := { stood := { row := deltaDiffsUptoRow, standIns := [], harness := (true, "0b3f521699b65e26cf315c25916ab8ee5d6f8ed5e77130359b78ddc2547b62e7"), looks := false }, kinds := [], alts := [], laidByText := true, laidKinds := [.data, .pinned], laidTests := true, laidLooks := .later }
def DeltaDiffsUptoCardSaid : Prop := Claim7.holds Tryd.pinned (.plain (OpenSpec.upto deltaDiffsSpec)) deltaDiffsUptoCard

/-- THE SECOND FORM's CARD OF 'tetherpostlaw.DeltaSame'. -/
def deltaSameUptoCard : Claim7 := { stood := { row := deltaSameUptoRow, standIns := [], harness := (true, "0b3f521699b65e26cf315c25916ab8ee5d6f8ed5e77130359b78ddc2547b62e7"), looks := false }, kinds := [], alts := [], laidByText := true, laidKinds := [.data, .pinned], laidTests := true, laidLooks := .later }
def DeltaSameUptoCardSaid : Prop := Claim7.holds Tryd.pinned (.plain (OpenSpec.upto deltaSameSpec)) deltaSameUptoCard

/-- THE SECOND FORM's CARD OF 'tetherpostlaw.TreeApplies'. -/
def treeAppliesUptoCard : Claim7 := { stood := { row := treeAppliesUptoRow, standIns := [], harness := (true, "0b3f521699b65e26cf315c25916ab8ee5d6f8ed5e77130359b78ddc2547b62e7"), looks := false }, kinds := [], alts := [], laidByText := true, laidKinds := [.data, .pinned], laidTests := true, laidLooks := .later }
def TreeAppliesUptoCardSaid : Prop := Claim7.holds Tryd.pinned (.plain (OpenSpec.upto treeAppliesSpec)) treeAppliesUptoCard

/-- THE SECOND FORM's CARD OF 'tetherpostlaw.TreeAlls'. -/
def treeAllsUptoCard : Claim7 := { stood := { row := treeAllsUptoRow, standIns := [], harness := (true, "0b3f521699b65e26cf315c25916ab8ee5d6f8ed5e77130359b78ddc2547b62e7"), looks := false }, kinds := [], alts := [], laidByText := true, laidKinds := [.data, .pinned], laidTests := true, laidLooks := .later }
def TreeAllsUptoCardSaid : Prop := Claim7.holds Tryd.pinned (.plain (OpenSpec.upto treeAllsSpec)) treeAllsUptoCard

/-- THE SECOND FORM's CARD OF 'tetherpostlaw.TreeBack'. -/
def treeBackUptoCard : Claim7 := { stood := { row := treeBackUptoRow, standIns := [], harness := (true, "0b3f521699b65e26cf315c25916ab8ee5d6f8ed5e77130359b78ddc2547b62e7"), looks := false }, kinds := [], alts := [], laidByText := true, laidKinds := [.data, .pinned], laidTests := true, laidLooks := .later }
def TreeBackUptoCardSaid : Prop := Claim7.holds Tryd.pinned (.plain (OpenSpec.upto treeBackSpec)) treeBackUptoCard

/-- THE SECOND FORM's CARD OF 'tetherpostlaw.TreeStale'. -/
def treeStaleUptoCard : Claim7 := { stood := { row := treeStaleUptoRow, standIns := [], harness := (true, "0b3f521699b65e26cf315c25916ab8ee5d6f8ed5e77130359b78ddc2547b62e7"), looks := false }, kinds := [], alts := [], laidByText := true, laidKinds := [.data, .pinned], laidTests := true, laidLooks := .later }
def TreeStaleUptoCardSaid : Prop := Claim7.holds Tryd.pinned (.plain (OpenSpec.upto treeStaleSpec)) treeStaleUptoCard

/-- THE SECOND FORM's CARD OF 'tetherpostlaw.TreeChecks'. -/
def treeChecksUptoCard : Claim7 := { stood := { row := treeChecksUptoRow, standIns := [], harness := (true, "0b3f521699b65e26cf315c25916ab8ee5d6f8ed5e77130359b78ddc2547b62e7"), looks := false }, kinds := [], alts := [], laidByText := true, laidKinds := [.data, .pinned], laidTests := true, laidLooks := .later }
def TreeChecksUptoCardSaid : Prop := Claim7.holds Tryd.pinned (.plain (OpenSpec.upto treeChecksSpec)) treeChecksUptoCard

/-- THE SECOND FORM's CARD OF 'tetherpostlaw.TreeFinds'. -/
def treeFindsUptoCard : Claim7 := { stood := { row := treeFindsUptoRow, standIns := [], harness := (true, "0b3f521699b65e26cf315c25916ab8ee5d6f8ed5e77130359b78ddc2547b62e7"), looks := false }, kinds := [], alts := [], laidByText := true, laidKinds := [.data, .pinned], laidTests := true, laidLooks := .later }
def TreeFindsUptoCardSaid : Prop := Claim7.holds Tryd.pinned (.plain (OpenSpec.upto treeFindsSpec)) treeFindsUptoCard

/-- THE SECOND FORM's CARD OF 'tetherpostlaw.TreeGoes'. -/
def treeGoesUptoCard : Claim7 := { stood := { row := treeGoesUptoRow, standIns := [], harness := (true, "0b3f521699b65e26cf315c25916ab8ee5d6f8ed5e77130359b78ddc2547b62e7"), looks := false }, kinds := [], alts := [], laidByText := true, laidKinds := [.data, .pinned], laidTests := true, laidLooks := .later }
def TreeGoesUptoCardSaid : Prop := Claim7.holds Tryd.pinned (.plain (OpenSpec.upto treeGoesSpec)) treeGoesUptoCard

/-- THE SECOND FORM's CARD OF 'tetherpostlaw.DeltaPatches'. -/
def deltaPatchesUptoCard : Claim7 := { stood := { row := deltaPatchesUptoRow, standIns := [], harness := (true, "0b3f521699b65e26cf315c25916ab8ee5d6f8ed5e77130359b78ddc2547b62e7"), looks := false }, kinds := [], alts := [], laidByText := true, laidKinds := [.data, .pinned], laidTests := true, laidLooks := .later }
def DeltaPatchesUptoCardSaid : Prop := Claim7.holds Tryd.pinned (.plain (OpenSpec.upto deltaPatchesSpec)) deltaPatchesUptoCard

/-- THE SECOND FORM's CARD OF 'tetherpostlaw.DeltaBack'. -/
def deltaBackUptoCard : Claim7 := { stood := { row := deltaBackUptoRow, standIns := [], harness := (true, "0b3f521699b65e26cf315c25916ab8ee5d6f8ed5e77130359b78ddc2547b62e7"), looks := false }, kinds := [], alts := [], laidByText := true, laidKinds := [.data, .pinned], laidTests := true, laidLooks := .later }
def DeltaBackUptoCardSaid : Prop := Claim7.holds Tryd.pinned (.plain (OpenSpec.upto deltaBackSpec)) deltaBackUptoCard
end Rows
end Go.Proofs.YtpeenheeakhlgaaDoor
