/- The law's own helpers: pathBegun, textIs. -/
import Derived.Test.YtieflafgcajhbaaDoorPa11
set_option linter.unusedSimpArgs false
set_option linter.unnecessarySimpa false
set_option maxHeartbeats 1000000
namespace Go.Proofs.YtieflafgcajhbaaDoor
open Go.Ab Go.RowKit
set_option maxRecDepth 10000
attribute [local irreducible] Awp Ops OpsX Wanted Red ExOk Go.Ab.Fin ACall Rz RzL RzRows Enters ResOk RenV RenVL ArgV ArgVL

theorem a_pbegun : AFn C.P 14 [] (.v (.bool true)) := by
  have h1 := a_aside [120, 47, 110, 111, 116, 101, 46, 116, 120, 116] 2 (by decide)
  have h2 := a_parent [120, 47, 121] (by decide)
  rw [show asideErr [120, 47, 110, 111, 116, 101, 46, 116, 120, 116] 2 = 0 from by decide +kernel, show okOr 0 (asideQ [120, 47, 110, 111, 116, 101, 46, 116, 120, 116] 2) = [120, 47, 110, 111, 116, 101, 32, 40, 50, 41, 46, 116, 120, 116] from by decide +kernel] at h1
  rw [show pathErr [120, 47, 121] = 0 from by decide +kernel, show okOr 0 (parentOf [120, 47, 121]) = [120] from by decide +kernel] at h2
  refine acall_intro Tryd.func14 rfl _ Tryd.ntmps14 (Nat.le_of_ble_eq_true rfl) _ Tryd.results14 0 rfl rfl ?_
  repeat' (first | refine walk ?_ | (first | (apply to_call Tryd.func11 rfl rfl; intro hIsFn; refine o_callp hIsFn (h1 ..) ?_) | (apply to_call Tryd.func17 rfl rfl; intro hIsFn; refine o_callp hIsFn (h2 ..) ?_)) | ((first | (apply ops_split_t; rfl; rfl; exact nle rfl) | (apply ops_split_f; rfl; rfl; exact nle rfl) | (apply awp_cond; rfl)); all_goals (intro hc; have hp := hc; first | (simp at hp; done) | ((try simp at hp); first | (exfalso; omega) | skip))) | (apply awp_cond_any; rfl))
  all_goals (apply fin_bool; rfl; simp; done)
theorem a_textIs (s w : Str) (e f : Int) : AFn C.P 15 [.v (str s), .v (.int .i64 e), .v (.int .i64 f), .v (str w)] (.v (.bool (decide (e = f) && decide (s = if f = 0 then w else [])))) := by
  refine acall_intro Tryd.func15 rfl _ Tryd.ntmps15 (Nat.le_of_ble_eq_true rfl) _ Tryd.results15 0 rfl rfl ?_
  repeat' (first | refine walk ?_ | fail | ((first | (apply ops_split_t; rfl; rfl; exact nle rfl) | (apply ops_split_f; rfl; rfl; exact nle rfl) | (apply awp_cond; rfl)); all_goals (intro hc; have hp := hc; first | (simp at hp; done) | ((try simp at hp); first | (exfalso; omega) | skip))) | (apply awp_cond_any; rfl))
  all_goals (apply fin_bool; rfl; simp_all)
end Go.Proofs.YtieflafgcajhbaaDoor
