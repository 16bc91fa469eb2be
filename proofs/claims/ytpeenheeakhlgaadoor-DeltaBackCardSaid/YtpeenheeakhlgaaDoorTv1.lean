/- The law TreeGoes, walked. -/
import Derived.Test.YtpeenheeakhlgaaDoorTu8
import Derived.Test.YtpeenheeakhlgaaDoorLkA
set_option linter.unusedSimpArgs false
set_option linter.unnecessarySimpa false
set_option linter.unusedVariables false
set_option maxHeartbeats 1000000
namespace Go.Proofs.YtpeenheeakhlgaaDoor
open Go.Ab Go.RowKit
set_option maxRecDepth 10000
attribute [local irreducible] Awp Ops OpsX Wanted Red ExOk Go.Ab.Fin ACall Rz RzL RzRows Enters ResOk RenV RenVL ArgV ArgVL

theorem apply_zero {t : List Ent} {c : Chg} {v : Int} (h : applyE t c v = 0) : Right t ∧ isVer v = true ∧ rawE t c v = 0 ∧ applyL t c v = doneL t c v ∧ Right (doneL t c v) := by
  have h0 := h
  unfold applyE at h
  split at h
  · contradiction
  · rename_i h1
    split at h
    · exact absurd h (by decide)
    · rename_i h2
      have h1 : treeErr t = 0 := by omega
      have hv : isVer v = true := by simpa using h2
      have hR := right_iff.1 h1
      exact ⟨hR, hv, h, by unfold applyL; rw [if_pos h0], done_right hR hv h⟩
theorem find_of {u : List Ent} {p : Str} {x : Ent} (h : Right u) (hp : pathErr p = 0) (hl : look u p = some x) : findE u p = 0 ∧ findX u p = x := by
  have h1 : findE u p = 0 := by
    unfold findE
    rw [if_neg (by rw [right_iff.2 h]; simp), if_neg (by rw [hp]; simp), look_hit, hl]; rfl
  refine ⟨h1, ?_⟩
  unfold findX
  rw [if_pos h1, show u.find? (atP p) = some x from hl]
theorem keep_look {t : List Ent} {c : Chg} {v : Int} (h : Right t) (hr : rawE t c v = 0) {x : Ent} (hx : x ∈ t) (h1 : inB x.path c.path = false) (h2 : c.kind = 3 → inB x.path c.to = false) : look (doneL t c v) x.path = some x := by
  obtain ⟨hc0, hm0, hd0⟩ := raw_zero hr
  obtain ⟨k1, k2, hpe, hte, -⟩ := chgErr_zero hc0
  obtain ⟨hf, hi, hmv, -⟩ := may_zero hm0
  have hl := look_mem h.rise hx
  have hne : ¬ x.path = c.path := fun e => by rw [e, inB_refl] at h1; cases h1
  by_cases e1 : c.kind = 1
  · rw [show doneL t c v = putT t ⟨c.path, true, [], v⟩ from by simp [doneL, e1], look_put h.rise, if_neg hne]; exact hl
  · by_cases e2 : c.kind = 2
    · rw [show doneL t c v = putT t ⟨c.path, false, c.text, v⟩ from by simp [doneL, e2], look_put h.rise, if_neg hne]; exact hl
    · by_cases e4 : c.kind = 4
      · rw [show doneL t c v = keepE (inP c.path) t from by simp [doneL, e4], look_keep, h1, if_neg (by decide)]; exact hl
      · have e3 : c.kind = 3 := by omega
        have hM : mvErr t c = if inB c.to c.path = true then 3 else if hitE t c.to = true then 6 else 0 := by unfold mvErr; rw [if_pos e3]
        rw [hmv] at hM
        have hhit : hitE t c.to = false := by
          cases h0 : hitE t c.to with
          | true => rw [h0] at hM; split at hM <;> simp at hM
          | false => rfl
        rw [look_move h e3 (hitE_none hhit).1, h2 e3, if_neg (by decide), h1, if_neg (by decide)]; exact hl
end Go.Proofs.YtpeenheeakhlgaaDoor
