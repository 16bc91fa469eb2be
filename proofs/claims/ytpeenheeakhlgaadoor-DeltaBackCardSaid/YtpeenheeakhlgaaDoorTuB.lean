import Derived.Test.YtpeenheeakhlgaaDoorTuA
/- The reference's trees, 3: ChangeOf: folders and files. -/
set_option linter.unusedSimpArgs false
set_option linter.unnecessarySimpa false
set_option linter.unusedVariables false
set_option maxHeartbeats 1000000
namespace Go.Proofs.YtpeenheeakhlgaaDoor
open Go.Ab Go.RowKit
set_option maxRecDepth 10000
attribute [local irreducible] Awp Ops OpsX Wanted Red ExOk Go.Ab.Fin ACall Rz RzL RzRows Enters ResOk RenV RenVL ArgV ArgVL

theorem pre_zero {t : List Ent} {c : Chg} (h : preErr t c = 0) : folderErr t (parentOf (goalOf c)) = 0 ∧ isErr t c = 0 ∧ mvErr t c = 0 := by
  unfold preErr at h
  split at h
  · contradiction
  · split at h
    · contradiction
    · exact ⟨by omega, by omega, h⟩
theorem chg_base {c : Chg} (h : chgErr c = 0) : -1 ≤ c.base := by
  have := (chgErr_zero h).2.2.2.2
  unfold chgRest at this
  split at this
  · exact absurd this (by decide)
  · split at this
    · exact absurd this (by decide)
    · split at this
      · exact absurd this (by decide)
      · omega
end Go.Proofs.YtpeenheeakhlgaaDoor

/- The reference's trees, 4: ChangeOf: deletions; versions that are too old. -/
set_option linter.unusedSimpArgs false
set_option linter.unnecessarySimpa false
set_option linter.unusedVariables false
set_option maxHeartbeats 1000000
namespace Go.Proofs.YtpeenheeakhlgaaDoor
open Go.Ab Go.RowKit
set_option maxRecDepth 10000
attribute [local irreducible] Awp Ops OpsX Wanted Red ExOk Go.Ab.Fin ACall Rz RzL RzRows Enters ResOk RenV RenVL ArgV ArgVL

theorem isErr_hit {t : List Ent} {c : Chg} (hk : 3 ≤ c.kind) (h : isErr t c = 0) : hitE t c.path = true := by
  unfold isErr at h
  rw [if_neg (by omega), if_neg (by omega)] at h
  cases hh : hitE t c.path with
  | true => rfl
  | false => simp [hh] at h
end Go.Proofs.YtpeenheeakhlgaaDoor
