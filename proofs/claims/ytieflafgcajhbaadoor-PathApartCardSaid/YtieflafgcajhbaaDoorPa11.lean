/- Paths in the abstract layer, 11: the reference's AsideOf. -/
import Derived.Test.YtieflafgcajhbaaDoorPa10
set_option linter.unusedSimpArgs false
set_option linter.unnecessarySimpa false
set_option maxHeartbeats 1000000
namespace Go.Proofs.YtieflafgcajhbaaDoor
open Go.Ab Go.RowKit
set_option maxRecDepth 10000
attribute [local irreducible] Awp Ops OpsX Wanted Red ExOk Go.Ab.Fin ACall Rz RzL RzRows Enters ResOk RenV RenVL ArgV ArgVL

theorem trimR_nil : trimR [] = [] := rfl
/-- A stem is cut at its end. -/
theorem cut_step {u v : Str} {c : UInt8} {r : Int} (hu : u = v ++ [c]) (h : r < (u.length : Int) ∨ c = 32) : trimR (v.take r.toNat) = trimR (u.take r.toNat) := by
  subst hu
  by_cases h1 : r.toNat ≤ v.length
  · rw [List.take_append_of_le_length h1]
  · have h2 : c = 32 := by
      rcases h with h | h
      · simp at h; omega
      · exact h
    rw [List.take_of_length_le (by omega), List.take_of_length_le (by simp; omega), trimR_snoc, if_pos h2]
theorem cut_end {u : Str} {r : Int} (h : u = [] ∨ ∃ v c, u = v ++ [c] ∧ (u.length : Int) ≤ r ∧ ¬ c = 32) : trimR (u.take r.toNat) = u := by
  rcases h with rfl | ⟨v, c, rfl, h1, h2⟩
  · simp [trimR_nil]
  · rw [List.take_of_length_le (by omega), trimR_snoc, if_neg h2]
end Go.Proofs.YtieflafgcajhbaaDoor
