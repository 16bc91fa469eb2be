import Derived.Test.YtkkfilkmkdnboaaDoorMz12
import Derived.Test.YtkkfilkmkdnboaaDoorMz28
/- choose, walked. -/
set_option linter.unusedSimpArgs false
set_option linter.unnecessarySimpa false
set_option linter.unusedVariables false
set_option maxHeartbeats 1000000
namespace Go.Proofs.YtkkfilkmkdnboaaDoor
open Go.Ab Go.RowKit
set_option maxRecDepth 10000

def chooseN (c : Int) (n : Nat) : Nat := (if c < 0 then (-(c + 1)).toNat else c.toNat) % n
attribute [local irreducible] Awp Ops OpsX Wanted Red ExOk Go.Ab.Fin ACall Rz RzL RzRows Enters ResOk RenV RenVL ArgV ArgVL
theorem a_choose (c : Int) (n : Nat) (hn : 0 < n) (hc0 : -9223372036854775808 ≤ c ∧ c ≤ 9223372036854775807) : AFn C.P 27 [.v (.int .i64 c), .v (.int .i64 (n : Int))] (.v (.int .i64 ((chooseN c n : Nat) : Int))) := by
  by_cases h0 : c < 0
  · have hE : chooseN c n = (-(c + 1)).toNat % n := by unfold chooseN; rw [if_pos h0]
    rw [hE]
    refine acall_intro Tryd.func27 rfl _ Tryd.ntmps27 (Nat.le_of_ble_eq_true rfl) _ Tryd.results27 0 rfl rfl ?_
    repeat' (first | refine walk ?_ | (first | (apply opsx_val; apply ex_neg; rfl; omega; omega; exact nle rfl) | (apply opsx_val; apply ex_rem (a := (-(c + 1)).toNat) (b := n); exact av_int (by omega); rfl; exact hn; exact nle rfl)) | ((first | (apply awp_cond; rfl)); all_goals (intro hc; have hp := hc; first | (simp at hp; done) | ((try simp at hp); first | (exfalso; omega) | skip))) | (apply awp_cond_any; rfl))
    all_goals try (exfalso; omega)
    all_goals (apply fin_int; rfl; rfl)
  · have hE : chooseN c n = c.toNat % n := by unfold chooseN; rw [if_neg h0]
    rw [hE]
    refine acall_intro Tryd.func27 rfl _ Tryd.ntmps27 (Nat.le_of_ble_eq_true rfl) _ Tryd.results27 0 rfl rfl ?_
    repeat' (first | refine walk ?_ | (first | (apply opsx_val; apply ex_rem (a := c.toNat) (b := n); exact av_int (by omega); rfl; exact hn; exact nle rfl)) | ((first | (apply awp_cond; rfl)); all_goals (intro hc; have hp := hc; first | (simp at hp; done) | ((try simp at hp); first | (exfalso; omega) | skip))) | (apply awp_cond_any; rfl))
    all_goals try (exfalso; omega)
    all_goals (apply fin_int; rfl; rfl)
end Go.Proofs.YtkkfilkmkdnboaaDoor
