/- The laws TreeChecks, TreeFinds, TreeApplies, TreeAlls, walked. -/
import Derived.Test.YtpeenheeakhlgaaDoorTu7
set_option linter.unusedSimpArgs false
set_option linter.unnecessarySimpa false
set_option linter.unusedVariables false
set_option maxHeartbeats 1000000
namespace Go.Proofs.YtpeenheeakhlgaaDoor
open Go.Ab Go.RowKit
set_option maxRecDepth 10000
attribute [local irreducible] Awp Ops OpsX Wanted Red ExOk Go.Ab.Fin ACall Rz RzL RzRows Enters ResOk RenV RenVL ArgV ArgVL

theorem allR_bad (v : Int) : ∀ (l : List Chg) (t : List Ent) (n : Nat), ¬ (allR v t l n).2.2 = 0 → (allR v t l n).1 = []
  | [], t, n, h => absurd rfl h
  | c :: l, t, n, h => by
    unfold allR at *
    split
    · rename_i h1; rw [if_pos h1] at h; exact allR_bad v l _ _ h
    · rfl
theorem allR_len (v : Int) : ∀ (l : List Chg) (t : List Ent) (n : Nat), t.length ≤ 60 → (allR v t l n).1.length ≤ 60
  | [], t, n, h => h
  | c :: l, t, n, h => by
    unfold allR
    split
    · rename_i h1; exact allR_len v l _ _ (done_60 h1)
    · simp
end Go.Proofs.YtpeenheeakhlgaaDoor
