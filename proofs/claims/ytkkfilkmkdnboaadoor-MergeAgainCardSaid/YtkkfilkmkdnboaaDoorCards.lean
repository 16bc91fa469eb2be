/-
  DERIVED. GIVEN WITH THE SEED: THE CARDS: each row of YtkkfilkmkdnboaaDoorRows.lean that lists a variable, with what it lists TIED to the program's text (the seventh form; the later family's looks); each row that meets fmt, with fmt's text TOLD by the authors' own Lean function (tested against real Go, not proved from fmt's source: count such statements apart). THE CARD IS WHAT COUNTS. Prove the row's statement (the work); the ties are given (YtkkfilkmkdnboaaDoorTie.lean); close each card by the builder's one call (the guide's Derived/Test/ToyasCard.lean, 'card_holds'). Laid BY PROGRAM, IN A SANDBOX (cutbox-door.mjs). By AI agents, Wed Nov 11 2026. No macro, syntax, notation, axiom, sorry.
-/
import Derived.Test.YtkkfilkmkdnboaaDoorRows
import GoSem.ClaimSeven
namespace Go.Proofs.YtkkfilkmkdnboaaDoor
namespace Rows

/-- THE TIED CARD OF 'tetherpostlaw.JournalCommits'. -/
def journalCommitsCard : Claim7 := { stood := { row := journalCommitsRow, standIns := [], harness := (true, "36338a937f9c0e77666b1e511c4bfeaf8703c6838d457ab4edbab8f42b729dc2"), looks := false }, kinds := [], alts := [], laidByText := true, laidKinds := [.data, .pinned], laidTests := true, laidLooks := .later }
def JournalCommitsCardSaid : Prop := Claim7.holds Tryd.pinned (.plain (OpenSpec.ofChange journalCommitsSpec)) journalCommitsCard

/-- THE TIED CARD OF 'tetherpostlaw.JournalReads'. -/
def journalReadsCard : Claim7 := { stood := { row := journalReadsRow, standIns := [], harness := (true, "36338a937f9c0e77666b1e511c4bfeaf8703c6838d457ab4edbab8f42b729dc2"), looks := false }, kinds := [], alts := [], laidByText := true, laidKinds := [.data, .pinned], laidTests := true, laidLooks := .later }
def JournalReadsCardSaid : Prop := Claim7.holds Tryd.pinned (.plain (OpenSpec.ofChange journalReadsSpec)) journalReadsCard

/-- THE TIED CARD OF 'tetherpostlaw.JournalOnce'. -/
def journalOnceCard : Claim7 := { stood := { row := journalOnceRow, standIns := [], harness := (true, "36338a937f9c0e77666b1e511c4bfeaf8703c6838d457ab4edbab8f42b729dc2"), looks := false }, kinds := [], alts := [], laidByText := true, laidKinds := [.data, .pinned], laidTests := true, laidLooks := .later }
def JournalOnceCardSaid : Prop := Claim7.holds Tryd.pinned (.plain (OpenSpec.ofChange journalOnceSpec)) journalOnceCard

/-- THE TIED CARD OF 'tetherpostlaw.JournalChecks'. -/
def journalChecksCard : Claim7 := { stood := { row := journalChecksRow, standIns := [], harness := (true, "36338a937f9c0e77666b1e511c4bfeaf8703c6838d457ab4edbab8f42b729dc2"), looks := false }, kinds := [], alts := [], laidByText := true, laidKinds := [.data, .pinned], laidTests := true, laidLooks := .later }
def JournalChecksCardSaid : Prop := Claim7.holds Tryd.pinned (.plain (OpenSpec.ofChange journalChecksSpec)) journalChecksCard

/-- THE TIED CARD OF 'tetherpostlaw.JournalFollows'. -/
def journalFollowsCard : Claim7 := { stood := { row := journalFollowsRow, standIns := [], harness := (true, "36338a937f9c0e77666b1e511c4bfeaf8703c6838d457ab4edbab8f42b729dc2"), looks := false }, kinds := [], alts := [], laidByText := true, laidKinds := [.data, .pinned], laidTests := true, laidLooks := .later }
def JournalFollowsCardSaid : Prop := Claim7.holds Tryd.pinned (.plain (OpenSpec.ofChange journalFollowsSpec)) journalFollowsCard

/-- THE TIED CARD OF 'tetherpostlaw.JournalResets'. -/
def journalResetsCard : Claim7 := { stood := { row := journalResetsRow, standIns := [], harness := (true, "36338a937f9c0e77666b1e511c4bfeaf8703c6838d457ab4edbab8f42b729dc2"), looks := false }, kinds := [], alts := [], laidByText := true, laidKinds := [.data, .pinned], laidTests := true, laidLooks := .later }
def JournalResetsCardSaid : Prop := Claim7.holds Tryd.pinned (.plain (OpenSpec.ofChange journalResetsSpec)) journalResetsCard

/-- THE TIED CARD OF 'tetherpostlaw.JournalComes'. -/
def journalComesCard : Claim7 := { stood := { row := journalComesRow, standIns := [], harness := (true, "36338a937f9c0e77666b1e511c4bfeaf8703c6838d457ab4edbab8f42b729dc2"), looks := false }, kinds := [], alts := [], laidByText := true, laidKinds := [.data, .pinned], laidTests := true, laidLooks := .later }
def JournalComesCardSaid : Prop := Claim7.holds Tryd.pinned (.plain (OpenSpec.ofChange journalComesSpec)) journalComesCard

/-- THE TIED CARD OF 'tetherpostlaw.TreeLists'. -/
def treeListsCard : Claim7 := { stood := { row := treeListsRow, standIns := [], harness := (true, "36338a937f9c0e77666b1e511c4bfeaf8703c6838d457ab4edbab8f42b729dc2"), looks := false }, kinds := [], alts := [], laidByText := true, laidKinds := [.data, .pinned], laidTests := true, laidLooks := .later }
def TreeListsCardSaid : Prop := Claim7.holds Tryd.pinned (.plain (OpenSpec.ofChange treeListsSpec)) treeListsCard

/-- THE TIED CARD OF 'tetherpostlaw.MergeAgain'. -/
def mergeAgainCard : Claim7 := { stood := { row := mergeAgainRow, standIns := [], harness := (true, "36338a937f9c0e77666b1e511c4bfeaf8703c6838d457ab4edbab8f42b729dc2"), looks := false }, kinds := [], alts := [], laidByText := true, laidKinds := [.data, .data, .data, .data, .pinned], laidTests := true, laidLooks := .later }
def MergeAgainCardSaid : Prop := Claim7.holds Tryd.pinned (.plain (OpenSpec.ofChange mergeAgainSpec)) mergeAgainCard

/-- THE TIED CARD OF 'tetherpostlaw.MergeTurns'. -/
def mergeTurnsCard : Claim7 := { stood := { row := mergeTurnsRow, standIns := [], harness := (true, "36338a937f9c0e77666b1e511c4bfeaf8703c6838d457ab4edbab8f42b729dc2"), looks := false }, kinds := [], alts := [], laidByText := true, laidKinds := [.data, .data, .data, .data, .pinned], laidTests := true, laidLooks := .later }
def MergeTurnsCardSaid : Prop := Claim7.holds Tryd.pinned (.plain (OpenSpec.ofChange mergeTurnsSpec)) mergeTurnsCard

/-- THE SECOND FORM's CARD OF 'tetherpostlaw.JournalCommits'. -/
def journalCommitsUptoCard : Claim7 := { stood := { row := journalCommitsUptoRow, standIns := [], harness := (true, "36338a937f9c0e77666b1e511c4bfeaf8703c6838d457ab4edbab8f42b729dc2"), looks := false }, kinds := [], alts := [], laidByText := true, laidKinds := [.data, .pinned], laidTests := true, laidLooks := .later }
def JournalCommitsUptoCardSaid : Prop := Claim7.holds Tryd.pinned (.plain (OpenSpec.upto journalCommitsSpec)) journalCommitsUptoCard

/-- THE SECOND FORM's CARD OF 'tetherpostlaw.JournalReads'. -/
def journalReadsUptoCard : Claim7 := { stood := { row := journalReadsUptoRow, standIns := [], harness := (true, "36338a937f9c0e77666b1e511c4bfeaf8703c6838d457ab4edbab8f42b729dc2"), looks := false }, kinds := [], alts := [], laidByText := true, laidKinds := [.data, .pinned], laidTests := true, laidLooks := .later }
def JournalReadsUptoCardSaid : Prop := Claim7.holds Tryd.pinned (.plain (OpenSpec.upto journalReadsSpec)) journalReadsUptoCard

/-- THE SECOND FORM's CARD OF 'tetherpostlaw.JournalOnce'. -/
def journalOnceUptoCard : Claim7 := { stood := { row := journalOnceUptoRow, standIns := [], harness := (true, "36338a937f9c0e77666b1e511c4bfeaf8703c6838d457ab4edbab8f42b729dc2"), looks := false }, kinds := [], alts := [], laidByText := true, laidKinds := [.data, .pinned], laidTests := true, laidLooks := .later }
def JournalOnceUptoCardSaid : Prop := Claim7.holds Tryd.pinned (.plain (OpenSpec.upto journalOnceSpec)) journalOnceUptoCard

/-- THE SECOND FORM's CARD OF 'tetherpostlaw.JournalChecks'. -/
def journalChecksUptoCard : Claim7 := { stood := { row := journalChecksUptoRow, standIns := [], harness := (true, "36338a937f9c0e77666b1e511c4bfeaf8703c6838d457ab4edbab8f42b729dc2"), looks := false }, kinds := [], alts := [], laidByText := true, laidKinds := [.data, .pinned], laidTests := true, laidLooks := .later }
def JournalChecksUptoCardSaid : Prop := Claim7.holds Tryd.pinned (.plain (OpenSpec.upto journalChecksSpec)) journalChecksUptoCard

/-- THE SECOND FORM's CARD OF 'tetherpostlaw.JournalFollows'. -/
def journalFollowsUptoCard : Claim7 := { stood := { row := journalFollowsUptoRow, standIns := [], harness := (true, "36338a937f9c0e77666b1e511c4bfeaf8703c6838d457ab4edbab8f42b729dc2"), looks := false }, kinds := [], alts := [], laidByText := true, laidKinds := [.data, .pinned], laidTests := true, laidLooks := .later }
def JournalFollowsUptoCardSaid : Prop := Claim7.holds Tryd.pinned (.plain (OpenSpec.upto journalFollowsSpec)) journalFollowsUptoCard

/-- THE SECOND FORM's CARD OF 'tetherpostlaw.JournalResets'. -/
def journalResetsUptoCard : Claim7 := { stood := { row := journalResetsUptoRow, standIns := [], harness := (true, "36338a937f9c0e77666b1e511c4bfeaf8703c6838d457ab4edbab8f42b729dc2"), looks := false }, kinds := [], alts := [], laidByText := true, laidKinds := [.data, .pinned], laidTests := true, laidLooks := .later }
def JournalResetsUptoCardSaid : Prop := Claim7.holds Tryd.pinned (.plain (OpenSpec.upto journalResetsSpec)) journalResetsUptoCard

/-- THE SECOND FORM's CARD OF 'tetherpostlaw.JournalComes'. -/
def journalComesUptoCard : Claim7 := { stood := { row := journalComesUptoRow, standIns := [], harness := (true, "36338a937f9c0e77666b1e511c4bfeaf8703c6838d457ab4edbab8f42b729dc2"), looks := false }, kinds := [], alts := [], laidByText := true, laidKinds := [.data, .pinned], laidTests := true, laidLooks := .later }
def JournalComesUptoCardSaid : Prop := Claim7.holds Tryd.pinned (.plain (OpenSpec.upto journalComesSpec)) journalComesUptoCard

/-- THE SECOND FORM's CARD OF 'tetherpostlaw.TreeLists'. -/
def treeListsUptoCard : Claim7 := { stood := { row := treeListsUptoRow, standIns := [], harness := (true, "36338a937f9c0e77666b1e511c4bfeaf8703c6838d457ab4edbab8f42b729dc2"), looks := false }, kinds := [], alts := [], laidByText := true, laidKinds := [.data, .pinned], laidTests := true, laidLooks := .later }
def TreeListsUptoCardSaid : Prop := Claim7.holds Tryd.pinned (.plain (OpenSpec.upto treeListsSpec)) treeListsUptoCard

/-- THE SECOND FORM's CARD OF 'tetherpostlaw.MergeAgain'. -/
def mergeAgainUptoCard : Claim7 := { stood := { row := mergeAgainUptoRow, standIns := [], harness := (true, "36338a937f9c0e77666b1e511c4bfeaf8703c6838d457ab4edbab8f42b729dc2"), looks := false }, kinds := [], alts := [], laidByText := true, laidKinds := [.data, .data, .data, .data, .pinned], laidTests := true, laidLooks := .later }
def MergeAgainUptoCardSaid : Prop := Claim7.holds Tryd.pinned (.plain (OpenSpec.upto mergeAgainSpec)) mergeAgainUptoCard

/-- THE SECOND FORM's CARD OF 'tetherpostlaw.MergeTurns'. -/
def mergeTurnsUptoCard : Claim7 := { stood := { row := mergeTurnsUptoRow, standIns := [], harness := (true, "36338a937f9c0e77666b1e511c4bfeaf8703c6838d457ab4edbab8f42b729dc2"), looks := false }, kinds := [], alts := [], laidByText := true, laidKinds := [.data, .data, .data, .data, .pinned], laidTests := true, laidLooks := .later }
def MergeTurnsUptoCardSaid : Prop := Claim7.holds Tryd.pinned (.plain (OpenSpec.upto mergeTurnsSpec)) mergeTurnsUptoCard
end Rows
end Go.Proofs.YtkkfilkmkdnboaaDoor
