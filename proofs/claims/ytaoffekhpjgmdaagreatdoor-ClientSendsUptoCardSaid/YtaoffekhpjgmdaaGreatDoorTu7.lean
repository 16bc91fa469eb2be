/- The reference's trees, 7: ChangeOf, AllOf; the laws TreeApplies, TreeAlls, TreeFinds, TreeChecks. -/
import Derived.Test.YtaoffekhpjgmdaaGreatDoorTuC
import Derived.Test.YtaoffekhpjgmdaaGreatDoorTsC
import Derived.Test.YtaoffekhpjgmdaaGreatDoorAbTyW
set_option linter.unusedSimpArgs false
set_option linter.unnecessarySimpa false
set_option linter.unusedVariables false
set_option maxHeartbeats 1000000
namespace Go.Proofs.YtaoffekhpjgmdaaGreatDoor
open Go.Ab Go.RowKit
set_option maxRecDepth 10000
attribute [local irreducible] Awp Ops OpsX Wanted Red ExOk Go.Ab.Fin ACall Rz RzL RzRows Enters ResOk RenV RenVL ArgV ArgVL

theorem raw_pre (t : List Ent) (c : Chg) (v : Int) : rawE t c v = if ¬ chgErr c = 0 then chgErr c else if ¬ preErr t c = 0 then preErr t c else if ¬ staleErr t c = 0 then staleErr t c else doneE t c v := by
  unfold rawE
  rw [may_pre]
  by_cases h0 : chgErr c = 0 <;> by_cases h1 : preErr t c = 0 <;> by_cases h2 : staleErr t c = 0 <;> simp [h0, h1, h2]
theorem stale_8 {t : List Ent} {c : Chg} (h : ¬ staleErr t c = 0) : staleErr t c = 8 := by
  unfold staleErr at *
  split at h
  · rename_i h1; rw [if_pos h1]
  · exact absurd rfl h
theorem a_changeOf (t : List Ent) (c : Chg) (v : Int) (h60 : t.length ≤ 60) (hs : rising entLt t = true) (hgt : ∀ x, x ∈ t → pathErr x.path = 0) (hcs : c.small) : AFn C.P 35 [entAV t, .agg c.row, .v (.int .i64 v)] (.tup [entAV (rawL t c v), .v (.int .i64 (rawE t c v))]) := by
  have hR := raw_pre t c v
  by_cases h0 : chgErr c = 0
  · rw [if_neg (by simp [h0])] at hR
    by_cases h1 : preErr t c = 0
    · rw [if_neg (by simp [h1])] at hR
      by_cases h2 : staleErr t c = 0
      · rw [if_neg (by simp [h2])] at hR
        obtain ⟨k1, k2, -⟩ := chgErr_zero h0
        have hL : rawL t c v = if doneE t c v = 0 then doneL t c v else [] := by unfold rawL; rw [hR]
        rw [hL, hR]
        by_cases e1 : c.kind = 1
        · exact a_co1 t c v h60 hs hgt hcs e1 h0 h1 h2
        · by_cases e2 : c.kind = 2
          · exact a_co2 t c v h60 hs hgt hcs e2 h0 h1 h2
          · by_cases e3 : c.kind = 3
            · exact a_co3 t c v h60 hs hgt hcs e3 h0 h1 h2
            · exact a_co4 t c v h60 hs hgt hcs (by omega) h0 h1 h2
      · rw [if_pos h2] at hR
        rw [rawL_bad (by rw [hR]; exact h2), hR, stale_8 h2]
        exact a_coS t c v h60 hs hgt hcs h0 h1 h2
    · rw [if_pos h1] at hR
      rw [rawL_bad (by rw [hR]; exact h1), hR]
      exact a_coP t c v h60 hs hcs h0 h1
  · rw [if_pos h0] at hR
    rw [rawL_bad (by rw [hR]; exact h0), hR]
    exact a_co0 t c v h60 hcs h0
theorem done_60 {t : List Ent} {c : Chg} {v : Int} (hr : rawE t c v = 0) : (doneL t c v).length ≤ 60 := by
  unfold rawE at hr
  split at hr
  · contradiction
  · split at hr
    · contradiction
    · exact (done_ok hr).2
def allW (t : List Ent) (l : List Chg) (v : Int) : List Ent × Nat × Int := if 20 < l.length then ([], 0, 2) else if isVer v = false ∧ 0 < l.length then ([], 0, 3) else allR v t l 0
theorem allT_eq (t : List Ent) (l : List Chg) (v : Int) : allT v t l = if ¬ treeErr t = 0 then ([], 0, treeErr t) else allW t l v := rfl

end Go.Proofs.YtaoffekhpjgmdaaGreatDoor
