/-
  NARROWER THAN 'FOR EVERY INPUT', by the rows' own cells (each row's printed sentence says how): HubNews: laid · HubChecks: laid · HubServes: laid · HubGoes: laid · HubApart: laid · HubTwice: laid · HubDenies: laid · HubTicks: laid · HubUploads: laid.
  DERIVED. THE GIVEN ROWS OF THIS SEAT. 9 by the template 'for every input the law returns true; each argument reads behind the call as it read before'; 0 by the template 'total and deterministic' (their statements: YtiljlcgmcmjcoaaGreatDoorTotals.lean).
  GIVEN WITH THE SEED: the statements are not yours to turn. If you find one false, say at which input.
  Laid BY PROGRAM, IN A SANDBOX (cutbox-rows.mjs): the forced cells as the released guide's own fill.sh prints them over the translation 5b522643e4dc4958… (all of the seat's roots in one cut). By AI agents, Wed Nov 11 2026. No macro, syntax, notation, axiom, sorry.
-/
import Derived.Test.YtiljlcgmcmjcoaaGreatDoorChecked
import GoSem.PinnedTables
import GoSem.Claim
import GoSem.ClaimJoined
import GoSem.ClaimMapViews
import Derived.JoinedTies
import Derived.KernelRfl
namespace Go.Proofs.YtiljlcgmcmjcoaaGreatDoor
/- THE CELL 'sum', in the pinned program and in every row, IS THE sha256 OF THE DUMP (.gsa) THAT YtiljlcgmcmjcoaaGreatDoorProg.lean LOADS. Nothing in Lean hashes anything: it is a label: what it is worth is what the hold of that sum in a sandbox is worth. -/
noncomputable def Tryz.pinned : Pinned := { name := "ytiljlcgmcmjcoaagreatdoor", sum := "5b522643e4dc4958eda011e4b5bd90c3bf12cd58c6c4cd9c7d7d60c8df6768f2", checked := Tryz.checked }
namespace Rows
def none {H : Type} : Left H := { results := [], args := [] }

/- WHAT THE LISTED PACKAGE-LEVEL VARIABLES READ AS WHEN THE CALL BEGINS. Each datum BY PROGRAM (the guide's laid-datum.mjs) off the statement by which the dump's own 'gosem.cut.vars' lays the variable. In a bare row this is a premise. The card (YtiljlcgmcmjcoaaGreatDoorCards.lean) ties it to the program's text. -/
def laid_unicode_utf8_acceptRanges {H : Type} : DataW H := .agg [.agg [.lit (.int .u8 128), .lit (.int .u8 191)], .agg [.lit (.int .u8 160), .lit (.int .u8 191)], .agg [.lit (.int .u8 128), .lit (.int .u8 159)], .agg [.lit (.int .u8 144), .lit (.int .u8 191)], .agg [.lit (.int .u8 128), .lit (.int .u8 143)], .agg [.lit (.int .u8 0), .lit (.int .u8 0)], .agg [.lit (.int .u8 0), .lit (.int .u8 0)], .agg [.lit (.int .u8 0), .lit (.int .u8 0)], .agg [.lit (.int .u8 0), .lit (.int .u8 0)], .agg [.lit (.int .u8 0), .lit (.int .u8 0)], .agg [.lit (.int .u8 0), .lit (.int .u8 0)], .agg [.lit (.int .u8 0), .lit (.int .u8 0)], .agg [.lit (.int .u8 0), .lit (.int .u8 0)], .agg [.lit (.int .u8 0), .lit (.int .u8 0)], .agg [.lit (.int .u8 0), .lit (.int .u8 0)], .agg [.lit (.int .u8 0), .lit (.int .u8 0)]]
/-- One of Go's own tables, pinned by name: the form's constant. -/
def laid_unicode_utf8_first : DataW Unit := Go.Pinned.utf8First

/-- 'tetherpostlaw.HubNews': WHATEVER THE INPUT: true; the input reads as it did. -/
def hubNewsSpec : ChangeSpec := { name := "hubNews", fn := fun _ => fun
  | [d1, d2] => { results := [.lit (.bool true)], args := [d1, d2] }
  | _ => none }
def hubNewsRow : OpenClaim := { program := "ytiljlcgmcmjcoaagreatdoor", sum := "5b522643e4dc4958eda011e4b5bd90c3bf12cd58c6c4cd9c7d7d60c8df6768f2", func := "tetherpost/tetherpostlaw.HubNews", spec := "hubNews", inPlace := ["internal/bytealg.IndexByteString", "internal/bytealg.IndexString", "internal/bytealg.CountString", "slices.overlaps[tetherpost/api.Entry]", "slices.overlaps[tetherpost/api.Grant]", "slices.overlaps[tetherpost/api.Shared]"], unfollowed := true, recurses := true, named := ["unicode/utf8.first", "unicode/utf8.acceptRanges", "internal/bytealg.MaxLen"], apart := false, laid := [("unicode/utf8.acceptRanges", laid_unicode_utf8_acceptRanges), ("unicode/utf8.first", laid_unicode_utf8_first)] }
def HubNewsSaid : Prop := hubNewsRow.holds Tryz.pinned (OpenSpec.ofChange hubNewsSpec)

/-- ITS FALSE NEIGHBOUR: 'it returns false'. Refute it at one input. -/
def hubNewsWrong : ChangeSpec := { name := "hubNews", fn := fun _ => fun
  | [d1, d2] => { results := [.lit (.bool false)], args := [d1, d2] }
  | _ => none }
def HubNewsWrongFalsely : Prop := hubNewsRow.holds Tryz.pinned (OpenSpec.ofChange hubNewsWrong)

/-- 'tetherpostlaw.HubChecks': WHATEVER THE INPUT: true; the input reads as it did. -/
def hubChecksSpec : ChangeSpec := { name := "hubChecks", fn := fun _ => fun
  | [d] => { results := [.lit (.bool true)], args := [d] }
  | _ => none }
def hubChecksRow : OpenClaim := { program := "ytiljlcgmcmjcoaagreatdoor", sum := "5b522643e4dc4958eda011e4b5bd90c3bf12cd58c6c4cd9c7d7d60c8df6768f2", func := "tetherpost/tetherpostlaw.HubChecks", spec := "hubChecks", inPlace := ["internal/bytealg.IndexByteString", "internal/bytealg.IndexString", "internal/bytealg.CountString", "slices.overlaps[tetherpost/api.Entry]", "slices.overlaps[tetherpost/api.Grant]", "slices.overlaps[tetherpost/api.Shared]"], unfollowed := true, recurses := true, named := ["unicode/utf8.first", "unicode/utf8.acceptRanges", "internal/bytealg.MaxLen"], apart := false, laid := [("unicode/utf8.acceptRanges", laid_unicode_utf8_acceptRanges), ("unicode/utf8.first", laid_unicode_utf8_first)] }
def HubChecksSaid : Prop := hubChecksRow.holds Tryz.pinned (OpenSpec.ofChange hubChecksSpec)

/-- ITS FALSE NEIGHBOUR: 'it returns false'. Refute it at one input. -/
def hubChecksWrong : ChangeSpec := { name := "hubChecks", fn := fun _ => fun
  | [d] => { results := [.lit (.bool false)], args := [d] }
  | _ => none }
def HubChecksWrongFalsely : Prop := hubChecksRow.holds Tryz.pinned (OpenSpec.ofChange hubChecksWrong)

/-- 'tetherpostlaw.HubServes': WHATEVER THE INPUT: true; the input reads as it did. -/
def hubServesSpec : ChangeSpec := { name := "hubServes", fn := fun _ => fun
  | [d1, d2] => { results := [.lit (.bool true)], args := [d1, d2] }
  | _ => none }
def hubServesRow : OpenClaim := { program := "ytiljlcgmcmjcoaagreatdoor", sum := "5b522643e4dc4958eda011e4b5bd90c3bf12cd58c6c4cd9c7d7d60c8df6768f2", func := "tetherpost/tetherpostlaw.HubServes", spec := "hubServes", inPlace := ["internal/bytealg.IndexByteString", "internal/bytealg.IndexString", "internal/bytealg.CountString", "slices.overlaps[tetherpost/api.Entry]", "slices.overlaps[tetherpost/api.Grant]", "slices.overlaps[tetherpost/api.Shared]"], unfollowed := true, recurses := true, named := ["unicode/utf8.first", "unicode/utf8.acceptRanges", "internal/bytealg.MaxLen"], apart := false, laid := [("unicode/utf8.acceptRanges", laid_unicode_utf8_acceptRanges), ("unicode/utf8.first", laid_unicode_utf8_first)] }
def HubServesSaid : Prop := hubServesRow.holds Tryz.pinned (OpenSpec.ofChange hubServesSpec)

/-- ITS FALSE NEIGHBOUR: 'it returns false'. Refute it at one input. -/
def hubServesWrong : ChangeSpec := { name := "hubServes", fn := fun _ => fun
  | [d1, d2] => { results := [.lit (.bool false)], args := [d1, d2] }
  | _ => none }
def HubServesWrongFalsely : Prop := hubServesRow.holds Tryz.pinned (OpenSpec.ofChange hubServesWrong)

/-- 'tetherpostlaw.HubGoes': WHATEVER THE INPUT: true; the input reads as it did. -/
def hubGoesSpec : ChangeSpec := { name := "hubGoes", fn := fun _ => fun
  | [d1, d2] => { results := [.lit (.bool true)], args := [d1, d2] }
  | _ => none }
def hubGoesRow : OpenClaim := { program := "ytiljlcgmcmjcoaagreatdoor", sum := "5b522643e4dc4958eda011e4b5bd90c3bf12cd58c6c4cd9c7d7d60c8df6768f2", func := "tetherpost/tetherpostlaw.HubGoes", spec := "hubGoes", inPlace := ["internal/bytealg.IndexByteString", "internal/bytealg.IndexString", "internal/bytealg.CountString", "slices.overlaps[tetherpost/api.Entry]", "slices.overlaps[tetherpost/api.Grant]", "slices.overlaps[tetherpost/api.Shared]"], unfollowed := true, recurses := true, named := ["unicode/utf8.first", "unicode/utf8.acceptRanges", "internal/bytealg.MaxLen"], apart := false, laid := [("unicode/utf8.acceptRanges", laid_unicode_utf8_acceptRanges), ("unicode/utf8.first", laid_unicode_utf8_first)] }
def HubGoesSaid : Prop := hubGoesRow.holds Tryz.pinned (OpenSpec.ofChange hubGoesSpec)

/-- ITS FALSE NEIGHBOUR: 'it returns false'. Refute it at one input. -/
def hubGoesWrong : ChangeSpec := { name := "hubGoes", fn := fun _ => fun
  | [d1, d2] => { results := [.lit (.bool false)], args := [d1, d2] }
  | _ => none }
def HubGoesWrongFalsely : Prop := hubGoesRow.holds Tryz.pinned (OpenSpec.ofChange hubGoesWrong)

/-- 'tetherpostlaw.HubApart': WHATEVER THE INPUT: true; the input reads as it did. -/
def hubApartSpec : ChangeSpec := { name := "hubApart", fn := fun _ => fun
  | [d1, d2, d3] => { results := [.lit (.bool true)], args := [d1, d2, d3] }
  | _ => none }
def hubApartRow : OpenClaim := { program := "ytiljlcgmcmjcoaagreatdoor", sum := "5b522643e4dc4958eda011e4b5bd90c3bf12cd58c6c4cd9c7d7d60c8df6768f2", func := "tetherpost/tetherpostlaw.HubApart", spec := "hubApart", inPlace := ["internal/bytealg.IndexByteString", "internal/bytealg.IndexString", "internal/bytealg.CountString", "slices.overlaps[tetherpost/api.Entry]", "slices.overlaps[tetherpost/api.Grant]", "slices.overlaps[tetherpost/api.Shared]"], unfollowed := true, recurses := true, named := ["unicode/utf8.first", "unicode/utf8.acceptRanges", "internal/bytealg.MaxLen"], apart := false, laid := [("unicode/utf8.acceptRanges", laid_unicode_utf8_acceptRanges), ("unicode/utf8.first", laid_unicode_utf8_first)] }
def HubApartSaid : Prop := hubApartRow.holds Tryz.pinned (OpenSpec.ofChange hubApartSpec)

/-- ITS FALSE NEIGHBOUR: 'it returns false'. Refute it at one input. -/
def hubApartWrong : ChangeSpec := { name := "hubApart", fn := fun _ => fun
  | [d1, d2, d3] => { results := [.lit (.bool false)], args := [d1, d2, d3] }
  | _ => none }
def HubApartWrongFalsely : Prop := hubApartRow.holds Tryz.pinned (OpenSpec.ofChange hubApartWrong)

/-- 'tetherpostlaw.HubTwice': WHATEVER THE INPUT: true; the input reads as it did. -/
def hubTwiceSpec : ChangeSpec := { name := "hubTwice", fn := fun _ => fun
  | [d1, d2] => { results := [.lit (.bool true)], args := [d1, d2] }
  | _ => none }
def hubTwiceRow : OpenClaim := { program := "ytiljlcgmcmjcoaagreatdoor", sum := "5b522643e4dc4958eda011e4b5bd90c3bf12cd58c6c4cd9c7d7d60c8df6768f2", func := "tetherpost/tetherpostlaw.HubTwice", spec := "hubTwice", inPlace := ["internal/bytealg.IndexByteString", "internal/bytealg.IndexString", "internal/bytealg.CountString", "slices.overlaps[tetherpost/api.Entry]", "slices.overlaps[tetherpost/api.Grant]", "slices.overlaps[tetherpost/api.Shared]"], unfollowed := true, recurses := true, named := ["unicode/utf8.first", "unicode/utf8.acceptRanges", "internal/bytealg.MaxLen"], apart := false, laid := [("unicode/utf8.acceptRanges", laid_unicode_utf8_acceptRanges), ("unicode/utf8.first", laid_unicode_utf8_first)] }
def HubTwiceSaid : Prop := hubTwiceRow.holds Tryz.pinned (OpenSpec.ofChange hubTwiceSpec)

/-- ITS FALSE NEIGHBOUR: 'it returns false'. Refute it at one input. -/
def hubTwiceWrong : ChangeSpec := { name := "hubTwice", fn := fun _ => fun
  | [d1, d2] => { results := [.lit (.bool false)], args := [d1, d2] }
  | _ => none }
def HubTwiceWrongFalsely : Prop := hubTwiceRow.holds Tryz.pinned (OpenSpec.ofChange hubTwiceWrong)

/-- 'tetherpostlaw.HubDenies': WHATEVER THE INPUT: true; the input reads as it did. -/
def hubDeniesSpec : ChangeSpec := { name := "hubDenies", fn := fun _ => fun
  | [d1, d2] => { results := [.lit (.bool true)], args := [d1, d2] }
  | _ => none }
def hubDeniesRow : OpenClaim := { program := "ytiljlcgmcmjcoaagreatdoor", sum := "5b522643e4dc4958eda011e4b5bd90c3bf12cd58c6c4cd9c7d7d60c8df6768f2", func := "tetherpost/tetherpostlaw.HubDenies", spec := "hubDenies", inPlace := ["internal/bytealg.IndexByteString", "internal/bytealg.IndexString", "internal/bytealg.CountString", "slices.overlaps[tetherpost/api.Entry]", "slices.overlaps[tetherpost/api.Grant]", "slices.overlaps[tetherpost/api.Shared]"], unfollowed := true, recurses := true, named := ["unicode/utf8.first", "unicode/utf8.acceptRanges", "internal/bytealg.MaxLen"], apart := false, laid := [("unicode/utf8.acceptRanges", laid_unicode_utf8_acceptRanges), ("unicode/utf8.first", laid_unicode_utf8_first)] }
def HubDeniesSaid : Prop := hubDeniesRow.holds Tryz.pinned (OpenSpec.ofChange hubDeniesSpec)

/-- ITS FALSE NEIGHBOUR: 'it returns false'. Refute it at one input. -/
def hubDeniesWrong : ChangeSpec := { name := "hubDenies", fn := fun _ => fun
  | [d1, d2] => { results := [.lit (.bool false)], args := [d1, d2] }
  | _ => none }
def HubDeniesWrongFalsely : Prop := hubDeniesRow.holds Tryz.pinned (OpenSpec.ofChange hubDeniesWrong)

/-- 'tetherpostlaw.HubTicks': WHATEVER THE INPUT: true; the input reads as it did. -/
def hubTicksSpec : ChangeSpec := { name := "hubTicks", fn := fun _ => fun
  | [d1, d2, d3] => { results := [.lit (.bool true)], args := [d1, d2, d3] }
  | _ => none }
def hubTicksRow : OpenClaim := { program := "ytiljlcgmcmjcoaagreatdoor", sum := "5b522643e4dc4958eda011e4b5bd90c3bf12cd58c6c4cd9c7d7d60c8df6768f2", func := "tetherpost/tetherpostlaw.HubTicks", spec := "hubTicks", inPlace := ["internal/bytealg.IndexByteString", "internal/bytealg.IndexString", "internal/bytealg.CountString", "slices.overlaps[tetherpost/api.Entry]", "slices.overlaps[tetherpost/api.Grant]", "slices.overlaps[tetherpost/api.Shared]"], unfollowed := true, recurses := true, named := ["unicode/utf8.first", "unicode/utf8.acceptRanges", "internal/bytealg.MaxLen"], apart := false, laid := [("unicode/utf8.acceptRanges", laid_unicode_utf8_acceptRanges), ("unicode/utf8.first", laid_unicode_utf8_first)] }
def HubTicksSaid : Prop := hubTicksRow.holds Tryz.pinned (OpenSpec.ofChange hubTicksSpec)

/-- ITS FALSE NEIGHBOUR: 'it returns false'. Refute it at one input. -/
def hubTicksWrong : ChangeSpec := { name := "hubTicks", fn := fun _ => fun
  | [d1, d2, d3] => { results := [.lit (.bool false)], args := [d1, d2, d3] }
  | _ => none }
def HubTicksWrongFalsely : Prop := hubTicksRow.holds Tryz.pinned (OpenSpec.ofChange hubTicksWrong)

/-- 'tetherpostlaw.HubUploads': WHATEVER THE INPUT: true; the input reads as it did. -/
def hubUploadsSpec : ChangeSpec := { name := "hubUploads", fn := fun _ => fun
  | [d1, d2, d3, d4, d5, d6] => { results := [.lit (.bool true)], args := [d1, d2, d3, d4, d5, d6] }
  | _ => none }
def hubUploadsRow : OpenClaim := { program := "ytiljlcgmcmjcoaagreatdoor", sum := "5b522643e4dc4958eda011e4b5bd90c3bf12cd58c6c4cd9c7d7d60c8df6768f2", func := "tetherpost/tetherpostlaw.HubUploads", spec := "hubUploads", inPlace := ["internal/bytealg.IndexByteString", "internal/bytealg.IndexString", "internal/bytealg.CountString", "slices.overlaps[tetherpost/api.Entry]", "slices.overlaps[tetherpost/api.Grant]", "slices.overlaps[tetherpost/api.Shared]"], unfollowed := true, recurses := true, named := ["unicode/utf8.first", "unicode/utf8.acceptRanges", "internal/bytealg.MaxLen"], apart := false, laid := [("unicode/utf8.acceptRanges", laid_unicode_utf8_acceptRanges), ("unicode/utf8.first", laid_unicode_utf8_first)] }
def HubUploadsSaid : Prop := hubUploadsRow.holds Tryz.pinned (OpenSpec.ofChange hubUploadsSpec)

/-- ITS FALSE NEIGHBOUR: 'it returns false'. Refute it at one input. -/
def hubUploadsWrong : ChangeSpec := { name := "hubUploads", fn := fun _ => fun
  | [d1, d2, d3, d4, d5, d6] => { results := [.lit (.bool false)], args := [d1, d2, d3, d4, d5, d6] }
  | _ => none }
def HubUploadsWrongFalsely : Prop := hubUploadsRow.holds Tryz.pinned (OpenSpec.ofChange hubUploadsWrong)

/- THE SECOND FORM. 'bulk': how many values and letters a reading holds, each counted each time it is reached (what is shared counts as often as it is met; a slice's spare places count too). A statement '..UptoSaid' is the law's where the arguments, and the package variables that the reading takes, are together of bulk at most 1048576: NARROWER than '..Said'. Prove '..Said' where nothing that the law and all that it calls make is longer than what came in: it says more and counts as full. Else prove '..UptoSaid'. A law counts once. -/
mutual
def uptoBulk {H : Type} : DataW H → Nat
  | .lit (.string bytes) => bytes.length + 1
  | .lit _ => 1
  | .nil => 1
  | .ptr d => uptoBulk d + 1
  | .slice elems spare => uptoBulkAll elems + uptoBulkAll spare + 1
  | .agg parts => uptoBulkAll parts + 1
  | .iface _ d => uptoBulk d + 1
  | .map entries => uptoBulkEntries entries + 1
  | .held _ => 1
def uptoBulkAll {H : Type} : List (DataW H) → Nat
  | [] => 0
  | d :: r => uptoBulk d + uptoBulkAll r
def uptoBulkEntries {H : Type} : List (Lit × DataW H) → Nat
  | [] => 0
  | x :: r => uptoBulkEntry x + uptoBulkEntries r
def uptoBulkEntry {H : Type} : Lit × DataW H → Nat
  | (.string bytes, d) => bytes.length + uptoBulk d + 1
  | (_, d) => uptoBulk d + 1
 end
def uptoSmall : (H : Type) → List (DataW H) → Bool := fun _ ds => decide (uptoBulkAll ds ≤ 1048576)
def OpenSpec.upto (s : _root_.Go.ChangeSpec) : _root_.Go.OpenSpec := { _root_.Go.OpenSpec.ofChange s with cond := some uptoSmall }

/-- 'tetherpostlaw.HubNews', WHERE WHAT IT READS IS OF BULK AT MOST 1048576: true; the input reads as it did. -/
def hubNewsUptoRow : OpenClaim := { program := "ytiljlcgmcmjcoaagreatdoor", sum := "5b522643e4dc4958eda011e4b5bd90c3bf12cd58c6c4cd9c7d7d60c8df6768f2", func := "tetherpost/tetherpostlaw.HubNews", spec := "hubNews", inPlace := ["internal/bytealg.IndexByteString", "internal/bytealg.IndexString", "internal/bytealg.CountString", "slices.overlaps[tetherpost/api.Entry]", "slices.overlaps[tetherpost/api.Grant]", "slices.overlaps[tetherpost/api.Shared]"], unfollowed := true, recurses := true, named := ["unicode/utf8.first", "unicode/utf8.acceptRanges", "internal/bytealg.MaxLen"], apart := false, laid := [("unicode/utf8.acceptRanges", laid_unicode_utf8_acceptRanges), ("unicode/utf8.first", laid_unicode_utf8_first)], narrowed := true }
def HubNewsUptoSaid : Prop := hubNewsUptoRow.holds Tryz.pinned (OpenSpec.upto hubNewsSpec)

/-- 'tetherpostlaw.HubChecks', WHERE WHAT IT READS IS OF BULK AT MOST 1048576: true; the input reads as it did. -/
def hubChecksUptoRow : OpenClaim := { program := "ytiljlcgmcmjcoaagreatdoor", sum := "5b522643e4dc4958eda011e4b5bd90c3bf12cd58c6c4cd9c7d7d60c8df6768f2", func := "tetherpost/tetherpostlaw.HubChecks", spec := "hubChecks", inPlace := ["internal/bytealg.IndexByteString", "internal/bytealg.IndexString", "internal/bytealg.CountString", "slices.overlaps[tetherpost/api.Entry]", "slices.overlaps[tetherpost/api.Grant]", "slices.overlaps[tetherpost/api.Shared]"], unfollowed := true, recurses := true, named := ["unicode/utf8.first", "unicode/utf8.acceptRanges", "internal/bytealg.MaxLen"], apart := false, laid := [("unicode/utf8.acceptRanges", laid_unicode_utf8_acceptRanges), ("unicode/utf8.first", laid_unicode_utf8_first)], narrowed := true }
def HubChecksUptoSaid : Prop := hubChecksUptoRow.holds Tryz.pinned (OpenSpec.upto hubChecksSpec)

/-- 'tetherpostlaw.HubServes', WHERE WHAT IT READS IS OF BULK AT MOST 1048576: true; the input reads as it did. -/
def hubServesUptoRow : OpenClaim := { program := "ytiljlcgmcmjcoaagreatdoor", sum := "5b522643e4dc4958eda011e4b5bd90c3bf12cd58c6c4cd9c7d7d60c8df6768f2", func := "tetherpost/tetherpostlaw.HubServes", spec := "hubServes", inPlace := ["internal/bytealg.IndexByteString", "internal/bytealg.IndexString", "internal/bytealg.CountString", "slices.overlaps[tetherpost/api.Entry]", "slices.overlaps[tetherpost/api.Grant]", "slices.overlaps[tetherpost/api.Shared]"], unfollowed := true, recurses := true, named := ["unicode/utf8.first", "unicode/utf8.acceptRanges", "internal/bytealg.MaxLen"], apart := false, laid := [("unicode/utf8.acceptRanges", laid_unicode_utf8_acceptRanges), ("unicode/utf8.first", laid_unicode_utf8_first)], narrowed := true }
def HubServesUptoSaid : Prop := hubServesUptoRow.holds Tryz.pinned (OpenSpec.upto hubServesSpec)

/-- 'tetherpostlaw.HubGoes', WHERE WHAT IT READS IS OF BULK AT MOST 1048576: true; the input reads as it did. -/
def hubGoesUptoRow : OpenClaim := { program := "ytiljlcgmcmjcoaagreatdoor", sum := "5b522643e4dc4958eda011e4b5bd90c3bf12cd58c6c4cd9c7d7d60c8df6768f2", func := "tetherpost/tetherpostlaw.HubGoes", spec := "hubGoes", inPlace := ["internal/bytealg.IndexByteString", "internal/bytealg.IndexString", "internal/bytealg.CountString", "slices.overlaps[tetherpost/api.Entry]", "slices.overlaps[tetherpost/api.Grant]", "slices.overlaps[tetherpost/api.Shared]"], unfollowed := true, recurses := true, named := ["unicode/utf8.first", "unicode/utf8.acceptRanges", "internal/bytealg.MaxLen"], apart := false, laid := [("unicode/utf8.acceptRanges", laid_unicode_utf8_acceptRanges), ("unicode/utf8.first", laid_unicode_utf8_first)], narrowed := true }
def HubGoesUptoSaid : Prop := hubGoesUptoRow.holds Tryz.pinned (OpenSpec.upto hubGoesSpec)

/-- 'tetherpostlaw.HubApart', WHERE WHAT IT READS IS OF BULK AT MOST 1048576: true; the input reads as it did. -/
def hubApartUptoRow : OpenClaim := { program := "ytiljlcgmcmjcoaagreatdoor", sum := "5b522643e4dc4958eda011e4b5bd90c3bf12cd58c6c4cd9c7d7d60c8df6768f2", func := "tetherpost/tetherpostlaw.HubApart", spec := "hubApart", inPlace := ["internal/bytealg.IndexByteString", "internal/bytealg.IndexString", "internal/bytealg.CountString", "slices.overlaps[tetherpost/api.Entry]", "slices.overlaps[tetherpost/api.Grant]", "slices.overlaps[tetherpost/api.Shared]"], unfollowed := true, recurses := true, named := ["unicode/utf8.first", "unicode/utf8.acceptRanges", "internal/bytealg.MaxLen"], apart := false, laid := [("unicode/utf8.acceptRanges", laid_unicode_utf8_acceptRanges), ("unicode/utf8.first", laid_unicode_utf8_first)], narrowed := true }
def HubApartUptoSaid : Prop := hubApartUptoRow.holds Tryz.pinned (OpenSpec.upto hubApartSpec)

/-- 'tetherpostlaw.HubTwice', WHERE WHAT IT READS IS OF BULK AT MOST 1048576: true; the input reads as it did. -/
def hubTwiceUptoRow : OpenClaim := { program := "ytiljlcgmcmjcoaagreatdoor", sum := "5b522643e4dc4958eda011e4b5bd90c3bf12cd58c6c4cd9c7d7d60c8df6768f2", func := "tetherpost/tetherpostlaw.HubTwice", spec := "hubTwice", inPlace := ["internal/bytealg.IndexByteString", "internal/bytealg.IndexString", "internal/bytealg.CountString", "slices.overlaps[tetherpost/api.Entry]", "slices.overlaps[tetherpost/api.Grant]", "slices.overlaps[tetherpost/api.Shared]"], unfollowed := true, recurses := true, named := ["unicode/utf8.first", "unicode/utf8.acceptRanges", "internal/bytealg.MaxLen"], apart := false, laid := [("unicode/utf8.acceptRanges", laid_unicode_utf8_acceptRanges), ("unicode/utf8.first", laid_unicode_utf8_first)], narrowed := true }
def HubTwiceUptoSaid : Prop := hubTwiceUptoRow.holds Tryz.pinned (OpenSpec.upto hubTwiceSpec)

/-- 'tetherpostlaw.HubDenies', WHERE WHAT IT READS IS OF BULK AT MOST 1048576: true; the input reads as it did. -/
def hubDeniesUptoRow : OpenClaim := { program := "ytiljlcgmcmjcoaagreatdoor", sum := "5b522643e4dc4958eda011e4b5bd90c3bf12cd58c6c4cd9c7d7d60c8df6768f2", func := "tetherpost/tetherpostlaw.HubDenies", spec := "hubDenies", inPlace := ["internal/bytealg.IndexByteString", "internal/bytealg.IndexString", "internal/bytealg.CountString", "slices.overlaps[tetherpost/api.Entry]", "slices.overlaps[tetherpost/api.Grant]", "slices.overlaps[tetherpost/api.Shared]"], unfollowed := true, recurses := true, named := ["unicode/utf8.first", "unicode/utf8.acceptRanges", "internal/bytealg.MaxLen"], apart := false, laid := [("unicode/utf8.acceptRanges", laid_unicode_utf8_acceptRanges), ("unicode/utf8.first", laid_unicode_utf8_first)], narrowed := true }
def HubDeniesUptoSaid : Prop := hubDeniesUptoRow.holds Tryz.pinned (OpenSpec.upto hubDeniesSpec)

/-- 'tetherpostlaw.HubTicks', WHERE WHAT IT READS IS OF BULK AT MOST 1048576: true; the input reads as it did. -/
def hubTicksUptoRow : OpenClaim := { program := "ytiljlcgmcmjcoaagreatdoor", sum := "5b522643e4dc4958eda011e4b5bd90c3bf12cd58c6c4cd9c7d7d60c8df6768f2", func := "tetherpost/tetherpostlaw.HubTicks", spec := "hubTicks", inPlace := ["internal/bytealg.IndexByteString", "internal/bytealg.IndexString", "internal/bytealg.CountString", "slices.overlaps[tetherpost/api.Entry]", "slices.overlaps[tetherpost/api.Grant]", "slices.overlaps[tetherpost/api.Shared]"], unfollowed := true, recurses := true, named := ["unicode/utf8.first", "unicode/utf8.acceptRanges", "internal/bytealg.MaxLen"], apart := false, laid := [("unicode/utf8.acceptRanges", laid_unicode_utf8_acceptRanges), ("unicode/utf8.first", laid_unicode_utf8_first)], narrowed := true }
def HubTicksUptoSaid : Prop := hubTicksUptoRow.holds Tryz.pinned (OpenSpec.upto hubTicksSpec)

/-- 'tetherpostlaw.HubUploads', WHERE WHAT IT READS IS OF BULK AT MOST 1048576: true; the input reads as it did. -/
def hubUploadsUptoRow : OpenClaim := { program := "ytiljlcgmcmjcoaagreatdoor", sum := "5b522643e4dc4958eda011e4b5bd90c3bf12cd58c6c4cd9c7d7d60c8df6768f2", func := "tetherpost/tetherpostlaw.HubUploads", spec := "hubUploads", inPlace := ["internal/bytealg.IndexByteString", "internal/bytealg.IndexString", "internal/bytealg.CountString", "slices.overlaps[tetherpost/api.Entry]", "slices.overlaps[tetherpost/api.Grant]", "slices.overlaps[tetherpost/api.Shared]"], unfollowed := true, recurses := true, named := ["unicode/utf8.first", "unicode/utf8.acceptRanges", "internal/bytealg.MaxLen"], apart := false, laid := [("unicode/utf8.acceptRanges", laid_unicode_utf8_acceptRanges), ("unicode/utf8.first", laid_unicode_utf8_first)], narrowed := true }
def HubUploadsUptoSaid : Prop := hubUploadsUptoRow.holds Tryz.pinned (OpenSpec.upto hubUploadsSpec)

end Rows
end Go.Proofs.YtiljlcgmcmjcoaaGreatDoor
