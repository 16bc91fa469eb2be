/-
  DERIVED. GIVEN WITH THE SEED: THE CARDS: each row of YtiljlcgmcmjcoaaGreatDoorRows.lean that lists a variable, with what it lists TIED to the program's text (the seventh form; the later family's looks); each row that meets fmt, with fmt's text TOLD by the authors' own Lean function (tested against real Go, not proved from fmt's source: count such statements apart). THE CARD IS WHAT COUNTS. Prove the row's statement (the work); the ties are given (YtiljlcgmcmjcoaaGreatDoorTie.lean); close each card by the builder's one call (the guide's Derived/Test/ToyasCard.lean, 'card_holds'). Laid BY PROGRAM, IN A SANDBOX (cutbox-door.mjs). By AI agents, Wed Nov 11 2026. No macro, syntax, notation, axiom, sorry.
-/
import Derived.Test.YtiljlcgmcmjcoaaGreatDoorRows
import GoSem.ClaimSeven
namespace Go.Proofs.YtiljlcgmcmjcoaaGreatDoor
namespace Rows

/-- THE TIED CARD OF 'tetherpostlaw.HubNews'. -/
def hubNewsCard : Claim7 := { stood := { row := hubNewsRow, standIns := [], harness := (true, "470a4b8100ecf5edaa92e382c64cabf924f558b941714f36fe0cbde02029ea38"), looks := false }, kinds := [], alts := [], laidByText := true, laidKinds := [.data, .pinned], laidTests := true, laidLooks := .later }
def HubNewsCardSaid : Prop := Claim7.holds Tryz.pinned (.plain (OpenSpec.ofChange hubNewsSpec)) hubNewsCard

/-- THE TIED CARD OF 'tetherpostlaw.HubChecks'. -/
def hubChecksCard : Claim7 := { stood := { row := hubChecksRow, standIns := [], harness := (true, "470a4b8100ecf5edaa92e382c64cabf924f558b941714f36fe0cbde02029ea38"), looks := false }, kinds := [], alts := [], laidByText := true, laidKinds := [.data, .pinned], laidTests := true, laidLooks := .later }
def HubChecksCardSaid : Prop := Claim7.holds Tryz.pinned (.plain (OpenSpec.ofChange hubChecksSpec)) hubChecksCard

/-- THE TIED CARD OF 'tetherpostlaw.HubServes'. -/
def hubServesCard : Claim7 := { stood := { row := hubServesRow, standIns := [], harness := (true, "470a4b8100ecf5edaa92e382c64cabf924f558b941714f36fe0cbde02029ea38"), looks := false }, kinds := [], alts := [], laidByText := true, laidKinds := [.data, .pinned], laidTests := true, laidLooks := .later }
def HubServesCardSaid : Prop := Claim7.holds Tryz.pinned (.plain (OpenSpec.ofChange hubServesSpec)) hubServesCard

/-- THE TIED CARD OF 'tetherpostlaw.HubGoes'. -/
def hubGoesCard : Claim7 := { stood := { row := hubGoesRow, standIns := [], harness := (true, "470a4b8100ecf5edaa92e382c64cabf924f558b941714f36fe0cbde02029ea38"), looks := false }, kinds := [], alts := [], laidByText := true, laidKinds := [.data, .pinned], laidTests := true, laidLooks := .later }
def HubGoesCardSaid : Prop := Claim7.holds Tryz.pinned (.plain (OpenSpec.ofChange hubGoesSpec)) hubGoesCard

/-- THE TIED CARD OF 'tetherpostlaw.HubApart'. -/
def hubApartCard : Claim7 := { stood := { row := hubApartRow, standIns := [], harness := (true, "470a4b8100ecf5edaa92e382c64cabf924f558b941714f36fe0cbde02029ea38"), looks := false }, kinds := [], alts := [], laidByText := true, laidKinds := [.data, .pinned], laidTests := true, laidLooks := .later }
def HubApartCardSaid : Prop := Claim7.holds Tryz.pinned (.plain (OpenSpec.ofChange hubApartSpec)) hubApartCard

/-- THE TIED CARD OF 'tetherpostlaw.HubTwice'. -/
def hubTwiceCard : Claim7 := { stood := { row := hubTwiceRow, standIns := [], harness := (true, "470a4b8100ecf5edaa92e382c64cabf924f558b941714f36fe0cbde02029ea38"), looks := false }, kinds := [], alts := [], laidByText := true, laidKinds := [.data, .pinned], laidTests := true, laidLooks := .later }
def HubTwiceCardSaid : Prop := Claim7.holds Tryz.pinned (.plain (OpenSpec.ofChange hubTwiceSpec)) hubTwiceCard

/-- THE TIED CARD OF 'tetherpostlaw.HubDenies'. -/
def hubDeniesCard : Claim7 := { stood := { row := hubDeniesRow, standIns := [], harness := (true, "470a4b8100ecf5edaa92e382c64cabf924f558b941714f36fe0cbde02029ea38"), looks := false }, kinds := [], alts := [], laidByText := true, laidKinds := [.data, .pinned], laidTests := true, laidLooks := .later }
def HubDeniesCardSaid : Prop := Claim7.holds Tryz.pinned (.plain (OpenSpec.ofChange hubDeniesSpec)) hubDeniesCard

/-- THE TIED CARD OF 'tetherpostlaw.HubTicks'. -/
def hubTicksCard : Claim7 := { stood := { row := hubTicksRow, standIns := [], harness := (true, "470a4b8100ecf5edaa92e382c64cabf924f558b941714f36fe0cbde02029ea38"), looks := false }, kinds := [], alts := [], laidByText := true, laidKinds := [.data, .pinned], laidTests := true, laidLooks := .later }
def HubTicksCardSaid : Prop := Claim7.holds Tryz.pinned (.plain (OpenSpec.ofChange hubTicksSpec)) hubTicksCard

/-- THE TIED CARD OF 'tetherpostlaw.HubUploads'. -/
def hubUploadsCard : Claim7 := { stood := { row := hubUploadsRow, standIns := [], harness := (true, "470a4b8100ecf5edaa92e382c64cabf924f558b941714f36fe0cbde02029ea38"), looks := false }, kinds := [], alts := [], laidByText := true, laidKinds := [.data, .pinned], laidTests := true, laidLooks := .later }
def HubUploadsCardSaid : Prop := Claim7.holds Tryz.pinned (.plain (OpenSpec.ofChange hubUploadsSpec)) hubUploadsCard

/-- THE SECOND FORM's CARD OF 'tetherpostlaw.HubNews'. -/
def hubNewsUptoCard : Claim7 := { stood := { row := hubNewsUptoRow, standIns := [], harness := (true, "470a4b8100ecf5edaa92e382c64cabf924f558b941714f36fe0cbde02029ea38"), looks := false }, kinds := [], alts := [], laidByText := true, laidKinds := [.data, .pinned], laidTests := true, laidLooks := .later }
def HubNewsUptoCardSaid : Prop := Claim7.holds Tryz.pinned (.plain (OpenSpec.upto hubNewsSpec)) hubNewsUptoCard

/-- THE SECOND FORM's CARD OF 'tetherpostlaw.HubChecks'. -/
def hubChecksUptoCard : Claim7 := { stood := { row := hubChecksUptoRow, standIns := [], harness := (true, "470a4b8100ecf5edaa92e382c64cabf924f558b941714f36fe0cbde02029ea38"), looks := false }, kinds := [], alts := [], laidByText := true, laidKinds := [.data, .pinned], laidTests := true, laidLooks := .later }
def HubChecksUptoCardSaid : Prop := Claim7.holds Tryz.pinned (.plain (OpenSpec.upto hubChecksSpec)) hubChecksUptoCard

/-- THE SECOND FORM's CARD OF 'tetherpostlaw.HubServes'. -/
def hubServesUptoCard : Claim7 := { stood := { row := hubServesUptoRow, standIns := [], harness := (true, "470a4b8100ecf5edaa92e382c64cabf924f558b941714f36fe0cbde02029ea38"), looks := false }, kinds := [], alts := [], laidByText := true, laidKinds := [.data, .pinned], laidTests := true, laidLooks := .later }
def HubServesUptoCardSaid : Prop := Claim7.holds Tryz.pinned (.plain (OpenSpec.upto hubServesSpec)) hubServesUptoCard

/-- THE SECOND FORM's CARD OF 'tetherpostlaw.HubGoes'. -/
def hubGoesUptoCard : Claim7 := { stood := { row := hubGoesUptoRow, standIns := [], harness := (true, "470a4b8100ecf5edaa92e382c64cabf924f558b941714f36fe0cbde02029ea38"), looks := false }, kinds := [], alts := [], laidByText := true, laidKinds := [.data, .pinned], laidTests := true, laidLooks := .later }
def HubGoesUptoCardSaid : Prop := Claim7.holds Tryz.pinned (.plain (OpenSpec.upto hubGoesSpec)) hubGoesUptoCard

/-- THE SECOND FORM's CARD OF 'tetherpostlaw.HubApart'. -/
def hubApartUptoCard : Claim7 := { stood := { row := hubApartUptoRow, standIns := [], harness := (true, "470a4b8100ecf5edaa92e382c64cabf924f558b941714f36fe0cbde02029ea38"), looks := false }, kinds := [], alts := [], laidByText := true, laidKinds := [.data, .pinned], laidTests := true, laidLooks := .later }
def HubApartUptoCardSaid : Prop := Claim7.holds Tryz.pinned (.plain (OpenSpec.upto hubApartSpec)) hubApartUptoCard

/-- THE SECOND FORM's CARD OF 'tetherpostlaw.HubTwice'. -/
def hubTwiceUptoCard : Claim7 := { stood := { row := hubTwiceUptoRow, standIns := [], harness := (true, "470a4b8100ecf5edaa92e382c64cabf924f558b941714f36fe0cbde02029ea38"), looks := false }, kinds := [], alts := [], laidByText := true, laidKinds := [.data, .pinned], laidTests := true, laidLooks := .later }
def HubTwiceUptoCardSaid : Prop := Claim7.holds Tryz.pinned (.plain (OpenSpec.upto hubTwiceSpec)) hubTwiceUptoCard

/-- THE SECOND FORM's CARD OF 'tetherpostlaw.HubDenies'. -/
def hubDeniesUptoCard : Claim7 := { stood := { row := hubDeniesUptoRow, standIns := [], harness := (true, "470a4b8100ecf5edaa92e382c64cabf924f558b941714f36fe0cbde02029ea38"), looks := false }, kinds := [], alts := [], laidByText := true, laidKinds := [.data, .pinned], laidTests := true, laidLooks := .later }
def HubDeniesUptoCardSaid : Prop := Claim7.holds Tryz.pinned (.plain (OpenSpec.upto hubDeniesSpec)) hubDeniesUptoCard

/-- THE SECOND FORM's CARD OF 'tetherpostlaw.HubTicks'. -/
def hubTicksUptoCard : Claim7 := { stood := { row := hubTicksUptoRow, standIns := [], harness := (true, "470a4b8100ecf5edaa92e382c64cabf924f558b941714f36fe0cbde02029ea38"), looks := false }, kinds := [], alts := [], laidByText := true, laidKinds := [.data, .pinned], laidTests := true, laidLooks := .later }
def HubTicksUptoCardSaid : Prop := Claim7.holds Tryz.pinned (.plain (OpenSpec.upto hubTicksSpec)) hubTicksUptoCard

/-- THE SECOND FORM's CARD OF 'tetherpostlaw.HubUploads'. -/
def hubUploadsUptoCard : Claim7 := { stood := { row := hubUploadsUptoRow, standIns := [], harness := (true, "470a4b8100ecf5edaa92e382c64cabf924f558b941714f36fe0cbde02029ea38"), looks := false }, kinds := [], alts := [], laidByText := true, laidKinds := [.data, .pinned], laidTests := true, laidLooks := .later }
def HubUploadsUptoCardSaid : Prop := Claim7.holds Tryz.pinned (.plain (OpenSpec.upto hubUploadsSpec)) hubUploadsUptoCard
end Rows
end Go.Proofs.YtiljlcgmcmjcoaaGreatDoor
