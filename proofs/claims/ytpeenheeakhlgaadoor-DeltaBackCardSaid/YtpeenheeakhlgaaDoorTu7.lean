/- The reference's trees, 7: ChangeOf, AllOf; the laws TreeApplies, TreeAlls, TreeFinds, TreeChecks. -/
import Derived.Test.YtpeenheeakhlgaaDoorTuC
import Derived.Test.YtpeenheeakhlgaaDoorTsC
import Derived.Test.YtpeenheeakhlgaaDoorAbTyW
set_option linter.unusedSimpArgs false
set_option linter.unnecessarySimpa false
set_option linter.unusedVariables false
set_option maxHeartbeats 1000000
namespace Go.Proofs.YtpeenheeakhlgaaDoor
open Go.Ab Go.RowKit
set_option maxRecDepth 10000
attribute [local irreducible] Awp Ops OpsX Wanted Red ExOk Go.Ab.Fin ACall Rz RzL RzRows Enters ResOk RenV RenVL ArgV ArgVL

theorem raw_pre (t : List Ent) (c : Chg) (v : Int) : rawE t c v = if ¬ chgErr c = 0 then chgErr c else if ¬ preErr t c = 0 then preErr t c else if ¬ staleErr t c = 0 then staleErr t c else doneE t c v := by
  unfold rawE
  rw [may_pre]
  by_cases h0 : chgErr c = 0 <;> by_cases h1 : preErr t c = 0 <;> by_cases h2 : staleErr t c = 0 <;> simp [h0, h1, h2]
theorem stale_8 {t : List Ent} {c : Chg} (h : ¬ staleErr t c = 0) : staleErr t c = 8 := by
  unfold staleErr at *
  split at h
  · rename_i h1; rw [if_pos h1]
  · exact absurd rfl h
theorem done_60 {t : List Ent} {c : Chg} {v : Int} (hr : rawE t c v = 0) : (doneL t c v).length ≤ 60 := by
  unfold rawE at hr
  split at hr
  · contradiction
  · split at hr
    · contradiction
    · exact (done_ok hr).2
def allW (t : List Ent) (l : List Chg) (v : Int) : List Ent × Nat × Int := if 20 < l.length then ([], 0, 2) else if isVer v = false ∧ 0 < l.length then ([], 0, 3) else allR v t l 0
theorem allT_eq (t : List Ent) (l : List Chg) (v : Int) : allT v t l = if ¬ treeErr t = 0 then ([], 0, treeErr t) else allW t l v := rfl

theorem a_treeBegun : AFn C.P 25 [] (.v (.bool true)) := by
  have h1 : AFn C.P 21 [.sl false [], .agg [.v (.int .i64 1), .v (str [97]), .v (str []), .v (str []), .v (.int .i64 0)], .v (.int .i64 5)] (.tup [entAV [⟨[97], true, [], 5⟩], .v (.int .i64 0)]) := by
    have h := a_apply [] ⟨1, [97], [], [], 0⟩ 5 ⟨by simp, by simp⟩ ⟨by simp, by simp, by simp⟩
    rw [show applyL [] ⟨1, [97], [], [], 0⟩ 5 = [⟨[97], true, [], 5⟩] from by decide +kernel, show applyE [] ⟨1, [97], [], [], 0⟩ 5 = 0 from by decide +kernel] at h
    exact h
  have h2 : AFn C.P 27 [entAV [⟨[97], true, [], 5⟩], .sl false [[.v (.int .i64 2), .v (str [97, 47, 98]), .v (str []), .v (str [120]), .v (.int .i64 (-1))]], .v (.int .i64 6)] (.tup [entAV [⟨[97], true, [], 5⟩, ⟨[97, 47, 98], false, [120], 6⟩], .v (.int .i64 1), .v (.int .i64 0)]) := by
    have h := a_all [⟨[97], true, [], 5⟩] [⟨2, [97, 47, 98], [], [120], -1⟩] 6 ⟨by simp [Ent.small], by simp⟩ ⟨by simp [Chg.small], by simp⟩
    rw [show allT 6 [⟨[97], true, [], 5⟩] [⟨2, [97, 47, 98], [], [120], -1⟩] = ([⟨[97], true, [], 5⟩, ⟨[97, 47, 98], false, [120], 6⟩], 1, 0) from by decide +kernel] at h
    exact h
  refine acall_intro Tryd.func25 rfl _ Tryd.ntmps25 (Nat.le_of_ble_eq_true rfl) _ Tryd.results25 0 rfl rfl ?_
  repeat' (first | refine walk ?_ | (first | (refine o_fzl ?_) | (apply to_call Tryd.func21 rfl rfl; intro hIsFn; refine o_callp hIsFn (h1 ..) ?_) | (apply to_call Tryd.func27 rfl rfl; intro hIsFn; refine o_callp hIsFn (h2 ..) ?_)) | ((first | (apply ops_split_t; rfl; rfl; exact nle rfl) | (apply ops_split_f; rfl; rfl; exact nle rfl) | (apply awp_cond; rfl)); all_goals (intro hc; have hp := hc; first | (simp at hp; done) | ((try simp at hp); first | (exfalso; omega) | skip))) | (apply awp_cond_any; rfl))
  all_goals try (exfalso; simp_all; done)
  all_goals (apply fin_bool; rfl; simp; done)
end Go.Proofs.YtpeenheeakhlgaaDoor
