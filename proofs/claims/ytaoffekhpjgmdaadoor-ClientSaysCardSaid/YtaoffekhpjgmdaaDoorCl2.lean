/- Clients in the abstract layer, 2: New, cloned, Edit, Fetch; the reference's EditOf. -/
import Derived.Test.YtaoffekhpjgmdaaDoorCl1
set_option linter.unusedSimpArgs false
set_option linter.unnecessarySimpa false
set_option linter.unusedVariables false
set_option maxHeartbeats 1000000
namespace Go.Proofs.YtaoffekhpjgmdaaDoor
open Go.Ab Go.RowKit
set_option maxRecDepth 10000
attribute [local irreducible] Awp Ops OpsX Wanted Red ExOk Go.Ab.Fin ACall Rz RzL RzRows Enters ResOk RenV RenVL ArgV ArgVL

theorem newC_big {who folder : Str} (hw : who.length ≤ 140737488355328) (hf : folder.length ≤ 140737488355328) : CliBig (newC who folder) :=
  ⟨hw, hf, ⟨fun _ h => (by cases h), (by simp [newC])⟩, ⟨fun _ h => (by cases h), (by simp [newC])⟩, (by simp [newC]), ⟨fun _ h => (by cases h), (by simp [newC])⟩⟩
theorem a_newC (who folder : Str) (hw : who.length ≤ 140737488355328) (hf : folder.length ≤ 140737488355328) : AFn C.P 13 [.v (str who), .v (str folder)] (resC (orNo (cliErr (newC who folder)) (newC who folder))) := by
  have h1 := a_ccheck _ (newC_big hw hf)
  unfold orNo
  generalize cliErr (newC who folder) = E at *
  by_cases hz : E = 0
  · subst hz
    rw [if_pos rfl]
    refine acall_intro Tryd.func13 rfl _ Tryd.ntmps13 (Nat.le_of_ble_eq_true rfl) _ Tryd.results13 0 rfl rfl ?_
    repeat' (first | refine walk ?_ | (first | (apply to_call Tryd.func15 rfl rfl; intro hIsFn; refine o_callp hIsFn (h1 ..) ?_)) | ((first | (apply awp_cond; rfl)); all_goals (intro hc; have hp := hc; first | (simp at hp; done) | ((try simp at hp); first | (exfalso; omega) | skip))) | (apply awp_cond_any; rfl))
    all_goals try (exfalso; omega)
    all_goals ((refine f_pure (rs := [.cell 4 25, .tmp 5]) ?_; (repeat' (first | exact rzl_nil | apply rzl_cons | exact rz_pure rfl | exact rz_ex | exact z_os | apply rz_agg | apply rz_tup | apply rz_clo | apply rz_int | apply rz_bool | apply rz_str | refine z_eq ?_ | apply rz_sl)); all_goals trace_state))
  · rw [if_neg hz]
    refine acall_intro Tryd.func13 rfl _ Tryd.ntmps13 (Nat.le_of_ble_eq_true rfl) _ Tryd.results13 0 rfl rfl ?_
    repeat' (first | refine walk ?_ | (first | (apply to_call Tryd.func15 rfl rfl; intro hIsFn; refine o_callp hIsFn (h1 ..) ?_)) | ((first | (apply awp_cond; rfl)); all_goals (intro hc; have hp := hc; first | (simp at hp; done) | ((try simp at hp); first | (exfalso; omega) | skip))) | (apply awp_cond_any; rfl))
    all_goals try (exfalso; omega)
    all_goals ((refine f_pure (rs := [.cell 4 25, .tmp 5]) ?_; (repeat' (first | exact rzl_nil | apply rzl_cons | exact rz_pure rfl | exact rz_ex | exact z_os | apply rz_agg | apply rz_tup | apply rz_clo | apply rz_int | apply rz_bool | apply rz_str | refine z_eq ?_ | apply rz_sl)); all_goals trace_state))
theorem a_clonedC (c : Cli) (h1 : c.base.length ≤ 1000000) (h2 : c.mine.length ≤ 1000000) (h3 : c.asked.length ≤ 1000000) : AFn C.P 16 [.agg c.row] (.agg c.row) := by
  have g1 := a_cloneEF c.base h1
  have g2 := a_cloneEF c.mine h2
  have g3 := a_cloneCF c.asked h3
  refine acall_intro Tryd.func16 rfl _ Tryd.ntmps16 (Nat.le_of_ble_eq_true rfl) _ Tryd.results16 0 rfl rfl ?_
  repeat' (first | refine walk ?_ | (first | (apply to_call Tryd.func26 rfl rfl; intro hIsFn; refine o_callp hIsFn (g1 ..) ?_) | (apply to_call Tryd.func26 rfl rfl; intro hIsFn; refine o_callp hIsFn (g2 ..) ?_) | (apply to_call Tryd.func19 rfl rfl; intro hIsFn; refine o_callp hIsFn (g3 ..) ?_)) | ((first | (apply awp_cond; rfl)); all_goals (intro hc; have hp := hc; first | (simp at hp; done) | ((try simp at hp); first | (exfalso; omega) | skip))) | (apply awp_cond_any; rfl))
  all_goals try (exfalso; omega)
  all_goals ((refine f_pure (rs := [.cell 2 25]) ?_; (repeat' (first | exact rzl_nil | apply rzl_cons | exact rz_pure rfl | exact rz_ex | exact z_os | apply rz_agg | apply rz_tup | apply rz_clo | apply rz_int | apply rz_bool | apply rz_str | refine z_eq ?_ | apply rz_sl)); all_goals trace_state))
theorem a_edit (c : Cli) (x : Chg) (hb : CliBig c) (hx : x.small) : AFn C.P 14 [.agg c.row, .agg x.row] (resC (editR c x)) := by
  have h1 := a_ccheck c hb
  have h2 := a_apply c.mine x 1 hb.mine hx
  have hE : editE c x = if ¬ x.base = -1 then 3 else applyE c.mine x 1 := rfl
  unfold editR
  by_cases hz : cliErr c = 0
  · rw [if_neg (by simp [hz])]
    have hR := cright_iff.1 hz
    have h3 := a_clonedC c (by have := (right_iff.1 hR.base).len; omega) (by have := (right_iff.1 hR.mine).len; omega) (by have := hR.few; omega)
    rw [hz] at h1
    generalize editE c x = G at *
    generalize applyL c.mine x 1 = L at *
    generalize applyE c.mine x 1 = A at *
    by_cases hb1 : x.base = -1
    · rw [if_neg (by simp [hb1])] at hE
      subst hE
      by_cases hA : G = 0
      · subst hA
        refine acall_intro Tryd.func14 rfl _ Tryd.ntmps14 (Nat.le_of_ble_eq_true rfl) _ Tryd.results14 0 rfl rfl ?_
        repeat' (first | refine walk ?_ | (first | (apply to_call Tryd.func15 rfl rfl; intro hIsFn; refine o_callp hIsFn (h1 ..) ?_) | (apply to_call Tryd.func22 rfl rfl; intro hIsFn; refine o_callp hIsFn (h2 ..) ?_) | (apply to_call Tryd.func16 rfl rfl; intro hIsFn; refine o_callp hIsFn (h3 ..) ?_)) | ((first | (apply awp_cond; rfl)); all_goals (intro hc; have hp := hc; first | (simp at hp; done) | ((try simp at hp); first | (exfalso; omega) | skip))) | (apply awp_cond_any; rfl))
        all_goals try (exfalso; omega)
        all_goals ((refine f_pure (rs := [.cell 4 25, .tmp 5]) ?_; (repeat' (first | exact rzl_nil | apply rzl_cons | exact rz_pure rfl | exact rz_ex | exact z_os | apply rz_agg | apply rz_tup | apply rz_clo | apply rz_int | apply rz_bool | apply rz_str | refine z_eq ?_ | apply rz_sl)); all_goals trace_state))
      · rw [show orNo G { c with mine := L } = (noCli, G) from if_neg hA]
        refine acall_intro Tryd.func14 rfl _ Tryd.ntmps14 (Nat.le_of_ble_eq_true rfl) _ Tryd.results14 0 rfl rfl ?_
        repeat' (first | refine walk ?_ | (first | (apply to_call Tryd.func15 rfl rfl; intro hIsFn; refine o_callp hIsFn (h1 ..) ?_) | (apply to_call Tryd.func22 rfl rfl; intro hIsFn; refine o_callp hIsFn (h2 ..) ?_) | (apply to_call Tryd.func16 rfl rfl; intro hIsFn; refine o_callp hIsFn (h3 ..) ?_)) | ((first | (apply awp_cond; rfl)); all_goals (intro hc; have hp := hc; first | (simp at hp; done) | ((try simp at hp); first | (exfalso; omega) | skip))) | (apply awp_cond_any; rfl))
        all_goals try (exfalso; omega)
        all_goals ((refine f_pure (rs := [.cell 4 25, .tmp 5]) ?_; (repeat' (first | exact rzl_nil | apply rzl_cons | exact rz_pure rfl | exact rz_ex | exact z_os | apply rz_agg | apply rz_tup | apply rz_clo | apply rz_int | apply rz_bool | apply rz_str | refine z_eq ?_ | apply rz_sl)); all_goals trace_state))
    · rw [if_pos hb1] at hE
      subst hE
      rw [show orNo 3 { c with mine := L } = (noCli, 3) from rfl]
      refine acall_intro Tryd.func14 rfl _ Tryd.ntmps14 (Nat.le_of_ble_eq_true rfl) _ Tryd.results14 0 rfl rfl ?_
      repeat' (first | refine walk ?_ | (first | (apply to_call Tryd.func15 rfl rfl; intro hIsFn; refine o_callp hIsFn (h1 ..) ?_)) | ((first | (apply awp_cond; rfl)); all_goals (intro hc; have hp := hc; first | (simp at hp; done) | ((try simp at hp); first | (exfalso; omega) | skip))) | (apply awp_cond_any; rfl))
      all_goals try (exfalso; omega)
      all_goals ((refine f_pure (rs := [.cell 4 25, .tmp 5]) ?_; (repeat' (first | exact rzl_nil | apply rzl_cons | exact rz_pure rfl | exact rz_ex | exact z_os | apply rz_agg | apply rz_tup | apply rz_clo | apply rz_int | apply rz_bool | apply rz_str | refine z_eq ?_ | apply rz_sl)); all_goals trace_state))
  · rw [if_pos hz]
    generalize cliErr c = E at *
    refine acall_intro Tryd.func14 rfl _ Tryd.ntmps14 (Nat.le_of_ble_eq_true rfl) _ Tryd.results14 0 rfl rfl ?_
    repeat' (first | refine walk ?_ | (first | (apply to_call Tryd.func15 rfl rfl; intro hIsFn; refine o_callp hIsFn (h1 ..) ?_)) | ((first | (apply awp_cond; rfl)); all_goals (intro hc; have hp := hc; first | (simp at hp; done) | ((try simp at hp); first | (exfalso; omega) | skip))) | (apply awp_cond_any; rfl))
    all_goals try (exfalso; omega)
    all_goals ((refine f_pure (rs := [.cell 4 25, .tmp 5]) ?_; (repeat' (first | exact rzl_nil | apply rzl_cons | exact rz_pure rfl | exact rz_ex | exact z_os | apply rz_agg | apply rz_tup | apply rz_clo | apply rz_int | apply rz_bool | apply rz_str | refine z_eq ?_ | apply rz_sl)); all_goals trace_state))
end Go.Proofs.YtaoffekhpjgmdaaDoor
