/- Clients in the abstract layer, 5: the reference's CheckClient, EditOf, SameClient, SameRequest. -/
import Derived.Test.YtaoffekhpjgmdaaDoorCl2
import Derived.Test.YtaoffekhpjgmdaaDoorSc
import Derived.Test.YtaoffekhpjgmdaaDoorTu7
set_option linter.unusedSimpArgs false
set_option linter.unnecessarySimpa false
set_option linter.unusedVariables false
set_option maxHeartbeats 1000000
namespace Go.Proofs.YtaoffekhpjgmdaaDoor
open Go.Ab Go.RowKit
set_option maxRecDepth 10000
attribute [local irreducible] Awp Ops OpsX Wanted Red ExOk Go.Ab.Fin ACall Rz RzL RzRows Enters ResOk RenV RenVL ArgV ArgVL

theorem a_sameCli (a b : Cli) (h1 : a.base.length ≤ 140737488355328) (h2 : b.base.length ≤ 140737488355328) (h3 : a.mine.length ≤ 140737488355328) (h4 : b.mine.length ≤ 140737488355328) (h5 : a.asked.length ≤ 140737488355328) (h6 : b.asked.length ≤ 140737488355328) :
    AFn C.P 8 [.agg a.row, .agg b.row] (.v (.bool (decide (a = b)))) := by
  have g1 := a_sameEntries a.base b.base h1 h2
  have g2 := a_sameEntries a.mine b.mine h3 h4
  have g3 := a_sameChanges a.asked b.asked h5 h6
  have hin : decide (a = b) = (decide (a.who = b.who) && decide (a.folder = b.folder) && decide (a.base = b.base) && decide (a.cursor = b.cursor) && decide (a.mine = b.mine) && decide (a.key = b.key) && decide (a.asked = b.asked) && decide (a.keys = b.keys)) := by
    obtain ⟨x1, x2, x3, x4, x5, x6, x7, x8⟩ := a
    obtain ⟨y1, y2, y3, y4, y5, y6, y7, y8⟩ := b
    rw [Bool.eq_iff_iff]; simp [and_assoc]
  rw [hin]
  generalize decide (a.base = b.base) = D1 at *
  generalize decide (a.mine = b.mine) = D2 at *
  generalize decide (a.asked = b.asked) = D3 at *
  clear hin h1 h2 h3 h4 h5 h6
  refine acall_intro Tryd.func8 rfl _ Tryd.ntmps8 (Nat.le_of_ble_eq_true rfl) _ Tryd.results8 0 rfl rfl ?_
  repeat' (first | refine walk ?_ | (first | (apply to_call Tryd.func21 rfl rfl; intro hIsFn; refine o_callf hIsFn (g1 ..) ?_; skip) | (apply to_call Tryd.func21 rfl rfl; intro hIsFn; refine o_callf hIsFn (g2 ..) ?_; skip) | (apply to_call Tryd.func20 rfl rfl; intro hIsFn; refine o_callf hIsFn (g3 ..) ?_; skip)) | ((first | (apply ops_split_t; rfl; rfl; exact nle rfl) | (apply ops_split_f; rfl; rfl; exact nle rfl) | (apply awp_cond; rfl)); all_goals (intro hc; have hp := hc; first | (simp at hp; done) | ((try simp at hp); first | (exfalso; omega) | skip))) | (apply awp_cond_any; rfl))
  all_goals (apply fin_bool; rfl; clear g1 g2 g3; simp_all)
theorem a_sameRqt (a b : Rqt) (h5 : a.chs.length ≤ 140737488355328) (h6 : b.chs.length ≤ 140737488355328) : AFn C.P 7 [.agg a.row, .agg b.row] (.v (.bool (decide (a = b)))) := by
  have g3 := a_sameChanges a.chs b.chs h5 h6
  have hin : decide (a = b) = (decide (a.kind = b.kind) && decide (a.who = b.who) && decide (a.folder = b.folder) && decide (a.name = b.name) && decide (a.key = b.key) && decide (a.text = b.text) && decide (a.number = b.number) && decide (a.offset = b.offset) && decide (a.base = b.base) && decide (a.chs = b.chs)) := by
    obtain ⟨x1, x2, x3, x4, x5, x6, x7, x8, x9, x10⟩ := a
    obtain ⟨y1, y2, y3, y4, y5, y6, y7, y8, y9, y10⟩ := b
    rw [Bool.eq_iff_iff]; simp [and_assoc]
  rw [hin]
  generalize decide (a.chs = b.chs) = D3 at *
  clear hin h5 h6
  refine acall_intro Tryd.func7 rfl _ Tryd.ntmps7 (Nat.le_of_ble_eq_true rfl) _ Tryd.results7 0 rfl rfl ?_
  repeat' (first | refine walk ?_ | (first | (apply to_call Tryd.func20 rfl rfl; intro hIsFn; refine o_callf hIsFn (g3 ..) ?_; skip)) | ((first | (apply ops_split_t; rfl; rfl; exact nle rfl) | (apply ops_split_f; rfl; rfl; exact nle rfl) | (apply awp_cond; rfl)); all_goals (intro hc; have hp := hc; first | (simp at hp; done) | ((try simp at hp); first | (exfalso; omega) | skip))) | (apply awp_cond_any; rfl))
  all_goals (apply fin_bool; rfl; clear g3; simp_all)
end Go.Proofs.YtaoffekhpjgmdaaDoor
