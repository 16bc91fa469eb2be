/- Clients: the laws ClientNews, ClientChecks, ClientEdits. -/
import Derived.Test.YtaoffekhpjgmdaaGreatDoorCl3
import Derived.Test.YtaoffekhpjgmdaaGreatDoorCl5
import Derived.Test.YtaoffekhpjgmdaaGreatDoorClQ
import Derived.Test.YtaoffekhpjgmdaaGreatDoorAbTyW
set_option linter.unusedSimpArgs false
set_option linter.unnecessarySimpa false
set_option linter.unusedVariables false
set_option maxHeartbeats 1000000
namespace Go.Proofs.YtaoffekhpjgmdaaGreatDoor
open Go.Ab Go.RowKit
set_option maxRecDepth 10000
attribute [local irreducible] Awp Ops OpsX Wanted Red ExOk Go.Ab.Fin ACall Rz RzL RzRows Enters ResOk RenV RenVL ArgV ArgVL

theorem noE_big : EBig [] := ⟨fun _ h => (by cases h), by simp⟩
theorem noH_big : CBig [] := ⟨fun _ h => (by cases h), by simp⟩
theorem begC_big : CliBig begC := newC_big (by decide) (by decide)
theorem begD_big : CliBig begD := ⟨by decide, by decide, noE_big, ⟨fun x h => by rw [List.mem_singleton.1 h]; exact ⟨by decide, by decide⟩, by decide⟩, by decide, noH_big⟩
theorem a_cbegun : AFn C.P 8 [] (.v (.bool true)) := by
  have h1 := a_newC [97] [102] (by decide) (by decide)
  rw [show newC [97] [102] = begC from rfl, begC_ok] at h1
  have h2 := a_edit begC begX begC_big ⟨by decide, by decide, by decide⟩
  rw [begE] at h2
  have h3 := a_send begD begD_big
  rw [begS_is] at h3
  refine acall_intro Tryz.func8 rfl _ Tryz.ntmps8 (Nat.le_of_ble_eq_true rfl) _ Tryz.results8 0 rfl rfl ?_
  repeat' (first | refine walk ?_ | (first | (apply to_call Tryz.func7 rfl rfl; intro hIsFn; refine o_callp hIsFn (h1 ..) ?_) | (apply to_call Tryz.func15 rfl rfl; intro hIsFn; refine o_callp hIsFn (h2 ..) ?_) | (apply to_call Tryz.func12 rfl rfl; intro hIsFn; refine o_callp hIsFn (h3 ..) ?_)) | ((first | (apply ops_split_t; rfl; rfl; exact nle rfl) | (apply ops_split_f; rfl; rfl; exact nle rfl) | (apply awp_cond; rfl)); all_goals (intro hc; have hp := hc; first | (simp at hp; done) | ((try simp at hp); first | (exfalso; omega) | skip))) | (apply awp_cond_any; rfl))
  all_goals try (exfalso; simp_all; done)
  all_goals (apply fin_bool; rfl; rfl)
theorem a_clientIs (c d : Cli) (e w : Int) (hc : CliBig c) (hd : CliBig d) : AFn C.P 9 [.agg c.row, .v (.int .i64 e), .v (.int .i64 w), .agg d.row] (.v (.bool (decide (e = w) && decide (c = if w = 0 then d else noCli)))) := by
  by_cases hw : w = 0
  · have h1 := a_sameCli c d hc.base.len hd.base.len hc.mine.len hd.mine.len hc.asked.len hd.asked.len
    rw [if_pos hw]
    generalize decide (c = d) = D at *
    refine acall_intro Tryz.func9 rfl _ Tryz.ntmps9 (Nat.le_of_ble_eq_true rfl) _ Tryz.results9 0 rfl rfl ?_
    repeat' (first | refine walk ?_ | (first | (apply to_call Tryz.func18 rfl rfl; intro hIsFn; refine o_callf hIsFn (h1 ..) ?_; skip)) | ((first | (apply ops_split_t; rfl; rfl; exact nle rfl) | (apply ops_split_f; rfl; rfl; exact nle rfl) | (apply awp_cond; rfl)); all_goals (intro hc; have hp := hc; first | (simp at hp; done) | ((try simp at hp); first | (exfalso; omega) | skip))) | (apply awp_cond_any; rfl))
    all_goals try (exfalso; omega)
    all_goals (apply fin_bool; rfl; clear h1; simp_all)
  · have h1 := a_sameCli c noCli hc.base.len (by decide) hc.mine.len (by decide) hc.asked.len (by decide)
    rw [if_neg hw]
    generalize decide (c = noCli) = D at *
    have h1 : AFn C.P 18 [.agg c.row, .agg [.v (str []), .v (str []), .sl false [], .v (.int .i64 0), .sl false [], .v (str []), .sl false [], .v (.int .i64 0)]] (.v (.bool D)) := h1
    refine acall_intro Tryz.func9 rfl _ Tryz.ntmps9 (Nat.le_of_ble_eq_true rfl) _ Tryz.results9 0 rfl rfl ?_
    repeat' (first | refine walk ?_ | (first | (apply to_call Tryz.func18 rfl rfl; intro hIsFn; refine o_callf hIsFn (h1 ..) ?_; skip)) | ((first | (apply ops_split_t; rfl; rfl; exact nle rfl) | (apply ops_split_f; rfl; rfl; exact nle rfl) | (apply awp_cond; rfl)); all_goals (intro hc; have hp := hc; first | (simp at hp; done) | ((try simp at hp); first | (exfalso; omega) | skip))) | (apply awp_cond_any; rfl))
    all_goals try (exfalso; omega)
    all_goals (apply fin_bool; rfl; clear h1; simp_all)
theorem noCli_big : CliBig noCli := ⟨by decide, by decide, noE_big, noE_big, by decide, noH_big⟩
theorem ite_same {P : Prop} [Decidable P] {α : Type} (x : α) : (if P then x else x) = x := by split <;> rfl
theorem law_cnews (who folder : Str) (hw : who.length ≤ 1000000000) (hf : folder.length ≤ 1000000000) : AFn C.P 3 [.v (str who), .v (str folder)] (.v (.bool true)) := by
  have hB := newC_big hw hf
  have h1 := a_newC who folder hw hf
  have h2 := a_checkC _ hB
  have hw2 : (newC who folder).row = [.v (str who), .v (str folder), .sl false [], .v (.int .i64 0), .sl false [], .v (str []), .sl false [], .v (.int .i64 0)] := rfl
  generalize hE : cliErr (newC who folder) = E at *
  have hR : (orNo E (newC who folder)).1 = if E = 0 then newC who folder else noCli := by unfold orNo; split <;> rfl
  have hR2 : (orNo E (newC who folder)).2 = E := by unfold orNo; split <;> simp_all
  have hRB : CliBig (orNo E (newC who folder)).1 := by rw [hR]; split; exact hB; exact noCli_big
  have h3 := a_clientIs (orNo E (newC who folder)).1 (newC who folder) E E hRB hB
  rw [show (decide (E = E) && decide ((orNo E (newC who folder)).1 = if E = 0 then newC who folder else noCli)) = true from by rw [hR]; simp] at h3
  generalize orNo E (newC who folder) = R at *
  obtain ⟨r, e⟩ := R
  simp only at hR2
  subst hR2
  rw [hw2] at h2 h3
  clear hR hRB hB hE
  refine acall_intro Tryz.func3 rfl _ Tryz.ntmps3 (Nat.le_of_ble_eq_true rfl) _ Tryz.results3 0 rfl rfl ?_
  repeat' (first | refine walk ?_ | (first | (apply to_call Tryz.func7 rfl rfl; intro hIsFn; refine o_callp hIsFn (h1 ..) ?_) | (apply to_call Tryz.func10 rfl rfl; intro hIsFn; refine o_callf hIsFn (h2 ..) ?_; skip) | (apply to_call Tryz.func8 rfl rfl; intro hIsFn; refine o_callf hIsFn (a_cbegun ..) ?_; skip) | (apply to_call Tryz.func9 rfl rfl; intro hIsFn; refine o_callf hIsFn (h3 ..) ?_; skip)) | ((first | (apply ops_split_t; rfl; rfl; exact nle rfl) | (apply ops_split_f; rfl; rfl; exact nle rfl) | (apply awp_cond; rfl)); all_goals (intro hc; have hp := hc; first | (simp at hp; done) | ((try simp at hp); first | (exfalso; omega) | skip))) | (apply awp_cond_any; rfl))
  all_goals try (exfalso; simp_all; done)
  all_goals (apply fin_bool; rfl; simp_all)
theorem law_cchecks (c : Cli) (hb : CliBig c) : AFn C.P 4 [.agg c.row] (.v (.bool true)) := by
  have h1 := a_ccheck c hb
  have h2 := a_checkC c hb
  generalize cliErr c = E at *
  refine acall_intro Tryz.func4 rfl _ Tryz.ntmps4 (Nat.le_of_ble_eq_true rfl) _ Tryz.results4 0 rfl rfl ?_
  repeat' (first | refine walk ?_ | (first | (apply to_call Tryz.func11 rfl rfl; intro hIsFn; refine o_callf hIsFn (h1 ..) ?_; skip) | (apply to_call Tryz.func10 rfl rfl; intro hIsFn; refine o_callf hIsFn (h2 ..) ?_; skip) | (apply to_call Tryz.func8 rfl rfl; intro hIsFn; refine o_callf hIsFn (a_cbegun ..) ?_; skip)) | ((first | (apply ops_split_t; rfl; rfl; exact nle rfl) | (apply ops_split_f; rfl; rfl; exact nle rfl) | (apply awp_cond; rfl)); all_goals (intro hc; have hp := hc; first | (simp at hp; done) | ((try simp at hp); first | (exfalso; omega) | skip))) | (apply awp_cond_any; rfl))
  all_goals try (exfalso; simp_all; done)
  all_goals (apply fin_bool; rfl; simp_all)
end Go.Proofs.YtaoffekhpjgmdaaGreatDoor
