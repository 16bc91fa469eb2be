/-
  No cell of these rows narrows 'for every input' (looked for: loops, veiled, ifaces, maps, wideKeys, modest, calm, conditions, laid).
  DERIVED. THE GIVEN ROWS OF THIS SEAT. 11 by the template 'for every input the law returns true; each argument reads behind the call as it read before'; 0 by the template 'total and deterministic' (their statements: YtdcigjpanpcaaaaTotals.lean).
  GIVEN WITH THE SEED: the statements are not yours to turn. If you find one false, say at which input.
  Laid BY PROGRAM, IN A SANDBOX (cutbox-rows.mjs): the forced cells as the released guide's own fill.sh prints them over the translation 0afb29ab1e3aa435… (all of the seat's roots in one cut). By AI agents, Wed Nov 11 2026. No macro, syntax, notation, axiom, sorry.
-/
import Derived.Test.YtdcigjpanpcaaaaChecked
import GoSem.Claim
import GoSem.ClaimJoined
import GoSem.ClaimMapViews
import Derived.JoinedTies
import Derived.KernelRfl
namespace Go.Proofs.Ytdcigjpanpcaaaa
/- THE CELL 'sum', in the pinned program and in every row, IS THE sha256 OF THE DUMP (.gsa) THAT YtdcigjpanpcaaaaProg.lean LOADS. Nothing in Lean hashes anything: it is a label: what it is worth is what the hold of that sum in a sandbox is worth. -/
noncomputable def Try.pinned : Pinned := { name := "ytdcigjpanpcaaaa", sum := "0afb29ab1e3aa435fee2b8cf790a89b95329cab21ddf85e7580e348877be931a", checked := Try.checked }
namespace Rows
def none {H : Type} : Left H := { results := [], args := [] }

/-- 'tetherpostlaw.UploadOpens': WHATEVER THE INPUT: true; the input reads as it did. -/
def uploadOpensSpec : ChangeSpec := { name := "uploadOpens", fn := fun _ => fun
  | [d1, d2, d3, d4] => { results := [.lit (.bool true)], args := [d1, d2, d3, d4] }
  | _ => none }
def uploadOpensRow : OpenClaim := { program := "ytdcigjpanpcaaaa", sum := "0afb29ab1e3aa435fee2b8cf790a89b95329cab21ddf85e7580e348877be931a", func := "tetherpost/tetherpostlaw.UploadOpens", spec := "uploadOpens", inPlace := ["internal/bytealg.IndexByteString"], unfollowed := true, recurses := true, apart := false }
def UploadOpensSaid : Prop := uploadOpensRow.holds Try.pinned (OpenSpec.ofChange uploadOpensSpec)

/-- ITS FALSE NEIGHBOUR: 'it returns false'. Refute it at one input. -/
def uploadOpensWrong : ChangeSpec := { name := "uploadOpens", fn := fun _ => fun
  | [d1, d2, d3, d4] => { results := [.lit (.bool false)], args := [d1, d2, d3, d4] }
  | _ => none }
def UploadOpensWrongFalsely : Prop := uploadOpensRow.holds Try.pinned (OpenSpec.ofChange uploadOpensWrong)

/-- 'tetherpostlaw.UploadAppends': WHATEVER THE INPUT: true; the input reads as it did. -/
def uploadAppendsSpec : ChangeSpec := { name := "uploadAppends", fn := fun _ => fun
  | [d1, d2, d3, d4, d5, d6] => { results := [.lit (.bool true)], args := [d1, d2, d3, d4, d5, d6] }
  | _ => none }
def uploadAppendsRow : OpenClaim := { program := "ytdcigjpanpcaaaa", sum := "0afb29ab1e3aa435fee2b8cf790a89b95329cab21ddf85e7580e348877be931a", func := "tetherpost/tetherpostlaw.UploadAppends", spec := "uploadAppends", inPlace := ["internal/bytealg.IndexByteString"], unfollowed := true, recurses := true, apart := false }
def UploadAppendsSaid : Prop := uploadAppendsRow.holds Try.pinned (OpenSpec.ofChange uploadAppendsSpec)

/-- ITS FALSE NEIGHBOUR: 'it returns false'. Refute it at one input. -/
def uploadAppendsWrong : ChangeSpec := { name := "uploadAppends", fn := fun _ => fun
  | [d1, d2, d3, d4, d5, d6] => { results := [.lit (.bool false)], args := [d1, d2, d3, d4, d5, d6] }
  | _ => none }
def UploadAppendsWrongFalsely : Prop := uploadAppendsRow.holds Try.pinned (OpenSpec.ofChange uploadAppendsWrong)

/-- 'tetherpostlaw.UploadChecks': WHATEVER THE INPUT: true; the input reads as it did. -/
def uploadChecksSpec : ChangeSpec := { name := "uploadChecks", fn := fun _ => fun
  | [d1, d2] => { results := [.lit (.bool true)], args := [d1, d2] }
  | _ => none }
def uploadChecksRow : OpenClaim := { program := "ytdcigjpanpcaaaa", sum := "0afb29ab1e3aa435fee2b8cf790a89b95329cab21ddf85e7580e348877be931a", func := "tetherpost/tetherpostlaw.UploadChecks", spec := "uploadChecks", inPlace := ["internal/bytealg.IndexByteString"], unfollowed := true, recurses := true, apart := false }
def UploadChecksSaid : Prop := uploadChecksRow.holds Try.pinned (OpenSpec.ofChange uploadChecksSpec)

/-- ITS FALSE NEIGHBOUR: 'it returns false'. Refute it at one input. -/
def uploadChecksWrong : ChangeSpec := { name := "uploadChecks", fn := fun _ => fun
  | [d1, d2] => { results := [.lit (.bool false)], args := [d1, d2] }
  | _ => none }
def UploadChecksWrongFalsely : Prop := uploadChecksRow.holds Try.pinned (OpenSpec.ofChange uploadChecksWrong)

/-- 'tetherpostlaw.UploadEnds': WHATEVER THE INPUT: true; the input reads as it did. -/
def uploadEndsSpec : ChangeSpec := { name := "uploadEnds", fn := fun _ => fun
  | [d1, d2, d3, d4] => { results := [.lit (.bool true)], args := [d1, d2, d3, d4] }
  | _ => none }
def uploadEndsRow : OpenClaim := { program := "ytdcigjpanpcaaaa", sum := "0afb29ab1e3aa435fee2b8cf790a89b95329cab21ddf85e7580e348877be931a", func := "tetherpost/tetherpostlaw.UploadEnds", spec := "uploadEnds", inPlace := ["internal/bytealg.IndexByteString"], unfollowed := true, recurses := true, apart := false }
def UploadEndsSaid : Prop := uploadEndsRow.holds Try.pinned (OpenSpec.ofChange uploadEndsSpec)

/-- ITS FALSE NEIGHBOUR: 'it returns false'. Refute it at one input. -/
def uploadEndsWrong : ChangeSpec := { name := "uploadEnds", fn := fun _ => fun
  | [d1, d2, d3, d4] => { results := [.lit (.bool false)], args := [d1, d2, d3, d4] }
  | _ => none }
def UploadEndsWrongFalsely : Prop := uploadEndsRow.holds Try.pinned (OpenSpec.ofChange uploadEndsWrong)

/-- 'tetherpostlaw.UploadWhole': WHATEVER THE INPUT: true; the input reads as it did. -/
def uploadWholeSpec : ChangeSpec := { name := "uploadWhole", fn := fun _ => fun
  | [d1, d2, d3, d4] => { results := [.lit (.bool true)], args := [d1, d2, d3, d4] }
  | _ => none }
def uploadWholeRow : OpenClaim := { program := "ytdcigjpanpcaaaa", sum := "0afb29ab1e3aa435fee2b8cf790a89b95329cab21ddf85e7580e348877be931a", func := "tetherpost/tetherpostlaw.UploadWhole", spec := "uploadWhole", inPlace := ["internal/bytealg.IndexByteString"], unfollowed := true, recurses := true, apart := false }
def UploadWholeSaid : Prop := uploadWholeRow.holds Try.pinned (OpenSpec.ofChange uploadWholeSpec)

/-- ITS FALSE NEIGHBOUR: 'it returns false'. Refute it at one input. -/
def uploadWholeWrong : ChangeSpec := { name := "uploadWhole", fn := fun _ => fun
  | [d1, d2, d3, d4] => { results := [.lit (.bool false)], args := [d1, d2, d3, d4] }
  | _ => none }
def UploadWholeWrongFalsely : Prop := uploadWholeRow.holds Try.pinned (OpenSpec.ofChange uploadWholeWrong)

/-- 'tetherpostlaw.UploadOver': WHATEVER THE INPUT: true; the input reads as it did. -/
def uploadOverSpec : ChangeSpec := { name := "uploadOver", fn := fun _ => fun
  | [d1, d2, d3, d4, d5] => { results := [.lit (.bool true)], args := [d1, d2, d3, d4, d5] }
  | _ => none }
def uploadOverRow : OpenClaim := { program := "ytdcigjpanpcaaaa", sum := "0afb29ab1e3aa435fee2b8cf790a89b95329cab21ddf85e7580e348877be931a", func := "tetherpost/tetherpostlaw.UploadOver", spec := "uploadOver", inPlace := ["internal/bytealg.IndexByteString"], unfollowed := true, recurses := true, apart := false }
def UploadOverSaid : Prop := uploadOverRow.holds Try.pinned (OpenSpec.ofChange uploadOverSpec)

/-- ITS FALSE NEIGHBOUR: 'it returns false'. Refute it at one input. -/
def uploadOverWrong : ChangeSpec := { name := "uploadOver", fn := fun _ => fun
  | [d1, d2, d3, d4, d5] => { results := [.lit (.bool false)], args := [d1, d2, d3, d4, d5] }
  | _ => none }
def UploadOverWrongFalsely : Prop := uploadOverRow.holds Try.pinned (OpenSpec.ofChange uploadOverWrong)

/-- 'tetherpostlaw.GrantChecks': WHATEVER THE INPUT: true; the input reads as it did. -/
def grantChecksSpec : ChangeSpec := { name := "grantChecks", fn := fun _ => fun
  | [d] => { results := [.lit (.bool true)], args := [d] }
  | _ => none }
def grantChecksRow : OpenClaim := { program := "ytdcigjpanpcaaaa", sum := "0afb29ab1e3aa435fee2b8cf790a89b95329cab21ddf85e7580e348877be931a", func := "tetherpost/tetherpostlaw.GrantChecks", spec := "grantChecks", inPlace := ["internal/bytealg.IndexByteString", "slices.overlaps[tetherpost/api.Grant]"], unfollowed := true, recurses := true, apart := false }
def GrantChecksSaid : Prop := grantChecksRow.holds Try.pinned (OpenSpec.ofChange grantChecksSpec)

/-- ITS FALSE NEIGHBOUR: 'it returns false'. Refute it at one input. -/
def grantChecksWrong : ChangeSpec := { name := "grantChecks", fn := fun _ => fun
  | [d] => { results := [.lit (.bool false)], args := [d] }
  | _ => none }
def GrantChecksWrongFalsely : Prop := grantChecksRow.holds Try.pinned (OpenSpec.ofChange grantChecksWrong)

/-- 'tetherpostlaw.GrantGives': WHATEVER THE INPUT: true; the input reads as it did. -/
def grantGivesSpec : ChangeSpec := { name := "grantGives", fn := fun _ => fun
  | [d1, d2, d3, d4, d5] => { results := [.lit (.bool true)], args := [d1, d2, d3, d4, d5] }
  | _ => none }
def grantGivesRow : OpenClaim := { program := "ytdcigjpanpcaaaa", sum := "0afb29ab1e3aa435fee2b8cf790a89b95329cab21ddf85e7580e348877be931a", func := "tetherpost/tetherpostlaw.GrantGives", spec := "grantGives", inPlace := ["internal/bytealg.IndexByteString", "slices.overlaps[tetherpost/api.Grant]"], unfollowed := true, recurses := true, apart := false }
def GrantGivesSaid : Prop := grantGivesRow.holds Try.pinned (OpenSpec.ofChange grantGivesSpec)

/-- ITS FALSE NEIGHBOUR: 'it returns false'. Refute it at one input. -/
def grantGivesWrong : ChangeSpec := { name := "grantGives", fn := fun _ => fun
  | [d1, d2, d3, d4, d5] => { results := [.lit (.bool false)], args := [d1, d2, d3, d4, d5] }
  | _ => none }
def GrantGivesWrongFalsely : Prop := grantGivesRow.holds Try.pinned (OpenSpec.ofChange grantGivesWrong)

/-- 'tetherpostlaw.GrantMakes': WHATEVER THE INPUT: true; the input reads as it did. -/
def grantMakesSpec : ChangeSpec := { name := "grantMakes", fn := fun _ => fun
  | [d1, d2, d3] => { results := [.lit (.bool true)], args := [d1, d2, d3] }
  | _ => none }
def grantMakesRow : OpenClaim := { program := "ytdcigjpanpcaaaa", sum := "0afb29ab1e3aa435fee2b8cf790a89b95329cab21ddf85e7580e348877be931a", func := "tetherpost/tetherpostlaw.GrantMakes", spec := "grantMakes", inPlace := ["internal/bytealg.IndexByteString", "slices.overlaps[tetherpost/api.Grant]"], unfollowed := true, recurses := true, apart := false }
def GrantMakesSaid : Prop := grantMakesRow.holds Try.pinned (OpenSpec.ofChange grantMakesSpec)

/-- ITS FALSE NEIGHBOUR: 'it returns false'. Refute it at one input. -/
def grantMakesWrong : ChangeSpec := { name := "grantMakes", fn := fun _ => fun
  | [d1, d2, d3] => { results := [.lit (.bool false)], args := [d1, d2, d3] }
  | _ => none }
def GrantMakesWrongFalsely : Prop := grantMakesRow.holds Try.pinned (OpenSpec.ofChange grantMakesWrong)

/-- 'tetherpostlaw.GrantApart': WHATEVER THE INPUT: true; the input reads as it did. -/
def grantApartSpec : ChangeSpec := { name := "grantApart", fn := fun _ => fun
  | [d1, d2, d3, d4, d5, d6] => { results := [.lit (.bool true)], args := [d1, d2, d3, d4, d5, d6] }
  | _ => none }
def grantApartRow : OpenClaim := { program := "ytdcigjpanpcaaaa", sum := "0afb29ab1e3aa435fee2b8cf790a89b95329cab21ddf85e7580e348877be931a", func := "tetherpost/tetherpostlaw.GrantApart", spec := "grantApart", inPlace := ["internal/bytealg.IndexByteString", "slices.overlaps[tetherpost/api.Grant]"], unfollowed := true, recurses := true, apart := false }
def GrantApartSaid : Prop := grantApartRow.holds Try.pinned (OpenSpec.ofChange grantApartSpec)

/-- ITS FALSE NEIGHBOUR: 'it returns false'. Refute it at one input. -/
def grantApartWrong : ChangeSpec := { name := "grantApart", fn := fun _ => fun
  | [d1, d2, d3, d4, d5, d6] => { results := [.lit (.bool false)], args := [d1, d2, d3, d4, d5, d6] }
  | _ => none }
def GrantApartWrongFalsely : Prop := grantApartRow.holds Try.pinned (OpenSpec.ofChange grantApartWrong)

/-- 'tetherpostlaw.GrantRights': WHATEVER THE INPUT: true; the input reads as it did. -/
def grantRightsSpec : ChangeSpec := { name := "grantRights", fn := fun _ => fun
  | [d1, d2, d3] => { results := [.lit (.bool true)], args := [d1, d2, d3] }
  | _ => none }
def grantRightsRow : OpenClaim := { program := "ytdcigjpanpcaaaa", sum := "0afb29ab1e3aa435fee2b8cf790a89b95329cab21ddf85e7580e348877be931a", func := "tetherpost/tetherpostlaw.GrantRights", spec := "grantRights", inPlace := ["internal/bytealg.IndexByteString", "slices.overlaps[tetherpost/api.Grant]"], unfollowed := true, recurses := true, apart := false }
def GrantRightsSaid : Prop := grantRightsRow.holds Try.pinned (OpenSpec.ofChange grantRightsSpec)

/-- ITS FALSE NEIGHBOUR: 'it returns false'. Refute it at one input. -/
def grantRightsWrong : ChangeSpec := { name := "grantRights", fn := fun _ => fun
  | [d1, d2, d3] => { results := [.lit (.bool false)], args := [d1, d2, d3] }
  | _ => none }
def GrantRightsWrongFalsely : Prop := grantRightsRow.holds Try.pinned (OpenSpec.ofChange grantRightsWrong)

/- THE SECOND FORM. 'bulk': how many values and letters a reading holds, each counted each time it is reached (what is shared counts as often as it is met; a slice's spare places count too). A statement '..UptoSaid' is the law's where the arguments, and the package variables that the reading takes, are together of bulk at most 1048576: NARROWER than '..Said'. Prove '..Said' where nothing that the law and all that it calls make is longer than what came in: it says more and counts as full. Else prove '..UptoSaid'. A law counts once. -/
mutual
def uptoBulk {H : Type} : DataW H → Nat
  | .lit (.string bytes) => bytes.length + 1
  | .lit _ => 1
  | .nil => 1
  | .ptr d => uptoBulk d + 1
  | .slice elems spare => uptoBulkAll elems + uptoBulkAll spare + 1
  | .agg parts => uptoBulkAll parts + 1
  | .iface _ d => uptoBulk d + 1
  | .map entries => uptoBulkEntries entries + 1
  | .held _ => 1
def uptoBulkAll {H : Type} : List (DataW H) → Nat
  | [] => 0
  | d :: r => uptoBulk d + uptoBulkAll r
def uptoBulkEntries {H : Type} : List (Lit × DataW H) → Nat
  | [] => 0
  | x :: r => uptoBulkEntry x + uptoBulkEntries r
def uptoBulkEntry {H : Type} : Lit × DataW H → Nat
  | (.string bytes, d) => bytes.length + uptoBulk d + 1
  | (_, d) => uptoBulk d + 1
 end
def uptoSmall : (H : Type) → List (DataW H) → Bool := fun _ ds => decide (uptoBulkAll ds ≤ 1048576)
def OpenSpec.upto (s : _root_.Go.ChangeSpec) : _root_.Go.OpenSpec := { _root_.Go.OpenSpec.ofChange s with cond := some uptoSmall }

/-- 'tetherpostlaw.UploadOpens', WHERE WHAT IT READS IS OF BULK AT MOST 1048576: true; the input reads as it did. -/
def uploadOpensUptoRow : OpenClaim := { program := "ytdcigjpanpcaaaa", sum := "0afb29ab1e3aa435fee2b8cf790a89b95329cab21ddf85e7580e348877be931a", func := "tetherpost/tetherpostlaw.UploadOpens", spec := "uploadOpens", inPlace := ["internal/bytealg.IndexByteString"], unfollowed := true, recurses := true, apart := false, narrowed := true }
def UploadOpensUptoSaid : Prop := uploadOpensUptoRow.holds Try.pinned (OpenSpec.upto uploadOpensSpec)

/-- 'tetherpostlaw.UploadAppends', WHERE WHAT IT READS IS OF BULK AT MOST 1048576: true; the input reads as it did. -/
def uploadAppendsUptoRow : OpenClaim := { program := "ytdcigjpanpcaaaa", sum := "0afb29ab1e3aa435fee2b8cf790a89b95329cab21ddf85e7580e348877be931a", func := "tetherpost/tetherpostlaw.UploadAppends", spec := "uploadAppends", inPlace := ["internal/bytealg.IndexByteString"], unfollowed := true, recurses := true, apart := false, narrowed := true }
def UploadAppendsUptoSaid : Prop := uploadAppendsUptoRow.holds Try.pinned (OpenSpec.upto uploadAppendsSpec)

/-- 'tetherpostlaw.UploadChecks', WHERE WHAT IT READS IS OF BULK AT MOST 1048576: true; the input reads as it did. -/
def uploadChecksUptoRow : OpenClaim := { program := "ytdcigjpanpcaaaa", sum := "0afb29ab1e3aa435fee2b8cf790a89b95329cab21ddf85e7580e348877be931a", func := "tetherpost/tetherpostlaw.UploadChecks", spec := "uploadChecks", inPlace := ["internal/bytealg.IndexByteString"], unfollowed := true, recurses := true, apart := false, narrowed := true }
def UploadChecksUptoSaid : Prop := uploadChecksUptoRow.holds Try.pinned (OpenSpec.upto uploadChecksSpec)

/-- 'tetherpostlaw.UploadEnds', WHERE WHAT IT READS IS OF BULK AT MOST 1048576: true; the input reads as it did. -/
def uploadEndsUptoRow : OpenClaim := { program := "ytdcigjpanpcaaaa", sum := "0afb29ab1e3aa435fee2b8cf790a89b95329cab21ddf85e7580e348877be931a", func := "tetherpost/tetherpostlaw.UploadEnds", spec := "uploadEnds", inPlace := ["internal/bytealg.IndexByteString"], unfollowed := true, recurses := true, apart := false, narrowed := true }
def UploadEndsUptoSaid : Prop := uploadEndsUptoRow.holds Try.pinned (OpenSpec.upto uploadEndsSpec)

/-- 'tetherpostlaw.UploadWhole', WHERE WHAT IT READS IS OF BULK AT MOST 1048576: true; the input reads as it did. -/
def uploadWholeUptoRow : OpenClaim := { program := "ytdcigjpanpcaaaa", sum := "0afb29ab1e3aa435fee2b8cf790a89b95329cab21ddf85e7580e348877be931a", func := "tetherpost/tetherpostlaw.UploadWhole", spec := "uploadWhole", inPlace := ["internal/bytealg.IndexByteString"], unfollowed := true, recurses := true, apart := false, narrowed := true }
def UploadWholeUptoSaid : Prop := uploadWholeUptoRow.holds Try.pinned (OpenSpec.upto uploadWholeSpec)

/-- 'tetherpostlaw.UploadOver', WHERE WHAT IT READS IS OF BULK AT MOST 1048576: true; the input reads as it did. -/
def uploadOverUptoRow : OpenClaim := { program := "ytdcigjpanpcaaaa", sum := "0afb29ab1e3aa435fee2b8cf790a89b95329cab21ddf85e7580e348877be931a", func := "tetherpost/tetherpostlaw.UploadOver", spec := "uploadOver", inPlace := ["internal/bytealg.IndexByteString"], unfollowed := true, recurses := true, apart := false, narrowed := true }
def UploadOverUptoSaid : Prop := uploadOverUptoRow.holds Try.pinned (OpenSpec.upto uploadOverSpec)

/-- 'tetherpostlaw.GrantChecks', WHERE WHAT IT READS IS OF BULK AT MOST 1048576: true; the input reads as it did. -/
def grantChecksUptoRow : OpenClaim := { program := "ytdcigjpanpcaaaa", sum := "0afb29ab1e3aa435fee2b8cf790a89b95329cab21ddf85e7580e348877be931a", func := "tetherpost/tetherpostlaw.GrantChecks", spec := "grantChecks", inPlace := ["internal/bytealg.IndexByteString", "slices.overlaps[tetherpost/api.Grant]"], unfollowed := true, recurses := true, apart := false, narrowed := true }
def GrantChecksUptoSaid : Prop := grantChecksUptoRow.holds Try.pinned (OpenSpec.upto grantChecksSpec)

/-- 'tetherpostlaw.GrantGives', WHERE WHAT IT READS IS OF BULK AT MOST 1048576: true; the input reads as it did. -/
def grantGivesUptoRow : OpenClaim := { program := "ytdcigjpanpcaaaa", sum := "0afb29ab1e3aa435fee2b8cf790a89b95329cab21ddf85e7580e348877be931a", func := "tetherpost/tetherpostlaw.GrantGives", spec := "grantGives", inPlace := ["internal/bytealg.IndexByteString", "slices.overlaps[tetherpost/api.Grant]"], unfollowed := true, recurses := true, apart := false, narrowed := true }
def GrantGivesUptoSaid : Prop := grantGivesUptoRow.holds Try.pinned (OpenSpec.upto grantGivesSpec)

/-- 'tetherpostlaw.GrantMakes', WHERE WHAT IT READS IS OF BULK AT MOST 1048576: true; the input reads as it did. -/
def grantMakesUptoRow : OpenClaim := { program := "ytdcigjpanpcaaaa", sum := "0afb29ab1e3aa435fee2b8cf790a89b95329cab21ddf85e7580e348877be931a", func := "tetherpost/tetherpostlaw.GrantMakes", spec := "grantMakes", inPlace := ["internal/bytealg.IndexByteString", "slices.overlaps[tetherpost/api.Grant]"], unfollowed := true, recurses := true, apart := false, narrowed := true }
def GrantMakesUptoSaid : Prop := grantMakesUptoRow.holds Try.pinned (OpenSpec.upto grantMakesSpec)

/-- 'tetherpostlaw.GrantApart', WHERE WHAT IT READS IS OF BULK AT MOST 1048576: true; the input reads as it did. -/
def grantApartUptoRow : OpenClaim := { program := "ytdcigjpanpcaaaa", sum := "0afb29ab1e3aa435fee2b8cf790a89b95329cab21ddf85e7580e348877be931a", func := "tetherpost/tetherpostlaw.GrantApart", spec := "grantApart", inPlace := ["internal/bytealg.IndexByteString", "slices.overlaps[tetherpost/api.Grant]"], unfollowed := true, recurses := true, apart := false, narrowed := true }
def GrantApartUptoSaid : Prop := grantApartUptoRow.holds Try.pinned (OpenSpec.upto grantApartSpec)

/-- 'tetherpostlaw.GrantRights', WHERE WHAT IT READS IS OF BULK AT MOST 1048576: true; the input reads as it did. -/
def grantRightsUptoRow : OpenClaim := { program := "ytdcigjpanpcaaaa", sum := "0afb29ab1e3aa435fee2b8cf790a89b95329cab21ddf85e7580e348877be931a", func := "tetherpost/tetherpostlaw.GrantRights", spec := "grantRights", inPlace := ["internal/bytealg.IndexByteString", "slices.overlaps[tetherpost/api.Grant]"], unfollowed := true, recurses := true, apart := false, narrowed := true }
def GrantRightsUptoSaid : Prop := grantRightsUptoRow.holds Try.pinned (OpenSpec.upto grantRightsSpec)

end Rows
end Go.Proofs.Ytdcigjpanpcaaaa
