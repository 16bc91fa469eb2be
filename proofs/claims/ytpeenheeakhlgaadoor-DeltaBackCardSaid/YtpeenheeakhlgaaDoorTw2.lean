/- Deltas: the reference's DiffOf and SameChanges, walked; the law DeltaDiffs. -/
import Derived.Test.YtpeenheeakhlgaaDoorTwA
import Derived.Test.YtpeenheeakhlgaaDoorTu8
set_option linter.unusedSimpArgs false
set_option linter.unnecessarySimpa false
set_option linter.unusedVariables false
set_option maxHeartbeats 1000000
namespace Go.Proofs.YtpeenheeakhlgaaDoor
open Go.Ab Go.RowKit
set_option maxRecDepth 10000
attribute [local irreducible] Awp Ops OpsX Wanted Red ExOk Go.Ab.Fin ACall Rz RzL RzRows Enters ResOk RenV RenVL ArgV ArgVL

theorem look_idx {t : List Ent} (hs : rising entLt t = true) {p : Str} : (look t p = none ∧ idxOf (atP p) t = -1) ∨ ∃ (k : Nat) (h : k < t.length), idxOf (atP p) t = k ∧ look t p = some t[k] := by
  rcases idxOf_find (atP p) t with ⟨h1, h2⟩ | ⟨k, hk, h1, h2⟩
  · exact .inl ⟨h2, h1⟩
  · exact .inr ⟨k, hk, h1, h2⟩
end Go.Proofs.YtpeenheeakhlgaaDoor
