/- Clients: the law ClientSays. -/
import Derived.Test.YtaoffekhpjgmdaaDoorCl10
import Derived.Test.YtaoffekhpjgmdaaDoorCl8
import Derived.Test.YtaoffekhpjgmdaaDoorTu7
import Derived.Test.YtaoffekhpjgmdaaDoorTwA
set_option linter.unusedSimpArgs false
set_option linter.unnecessarySimpa false
set_option linter.unusedVariables false
set_option maxHeartbeats 1000000
namespace Go.Proofs.YtaoffekhpjgmdaaDoor
open Go.Ab Go.RowKit
set_option maxRecDepth 10000
attribute [local irreducible] Awp Ops OpsX Wanted Red ExOk Go.Ab.Fin ACall Rz RzL RzRows Enters ResOk RenV RenVL ArgV ArgVL

theorem law_csays (c : Cli) (hb : CliBig c) : AFn C.P 4 [.agg c.row] (.v (.bool true)) := by
  have h1 := a_send c hb
  by_cases hz : cliErr c = 0
  · have hR := cright_iff.1 hz
    have hE : sendR c = sendW c := by unfold sendR; rw [if_neg (by simp [hz])]
    rw [hE] at h1
    by_cases hk : c.key = []
    · by_cases hd : rawD c.base c.mine = []
      · have hW : sendW c = (c, noRqt, false, 0) := by unfold sendW; rw [if_pos hk, if_pos hd]
        rw [hW] at h1
        refine acall_intro Tryd.func4 rfl _ Tryd.ntmps4 (Nat.le_of_ble_eq_true rfl) _ Tryd.results4 0 rfl rfl ?_
        repeat' (first | refine walk ?_ | (first | (apply to_call Tryd.func5 rfl rfl; intro hIsFn; refine o_callf hIsFn (a_cbegun ..) ?_; skip) | (apply to_call Tryd.func9 rfl rfl; intro hIsFn; refine o_callf hIsFn (a_treeBegun ..) ?_; skip) | (apply to_call Tryd.func10 rfl rfl; intro hIsFn; refine o_callf hIsFn (a_dbegun ..) ?_; skip) | (apply to_call Tryd.func6 rfl rfl; intro hIsFn; refine o_callp hIsFn (h1 ..) ?_)) | ((first | (apply ops_split_t; rfl; rfl; exact nle rfl) | (apply ops_split_f; rfl; rfl; exact nle rfl) | (apply awp_cond; rfl)); all_goals (intro hc; have hp := hc; first | (simp at hp; done) | ((try simp at hp); first | (exfalso; omega) | skip))) | (apply awp_cond_any; rfl))
        all_goals try (exfalso; first | omega | (simp_all; done))
        all_goals (apply fin_bool; rfl; rfl)
      · by_cases hm : c.keys = 1000000
        · have hW : sendW c = (noCli, noRqt, false, 3) := by unfold sendW; rw [if_pos hk, if_neg hd, if_pos hm]
          rw [hW] at h1
          refine acall_intro Tryd.func4 rfl _ Tryd.ntmps4 (Nat.le_of_ble_eq_true rfl) _ Tryd.results4 0 rfl rfl ?_
          repeat' (first | refine walk ?_ | (first | (apply to_call Tryd.func5 rfl rfl; intro hIsFn; refine o_callf hIsFn (a_cbegun ..) ?_; skip) | (apply to_call Tryd.func9 rfl rfl; intro hIsFn; refine o_callf hIsFn (a_treeBegun ..) ?_; skip) | (apply to_call Tryd.func10 rfl rfl; intro hIsFn; refine o_callf hIsFn (a_dbegun ..) ?_; skip) | (apply to_call Tryd.func6 rfl rfl; intro hIsFn; refine o_callp hIsFn (h1 ..) ?_)) | ((first | (apply ops_split_t; rfl; rfl; exact nle rfl) | (apply ops_split_f; rfl; rfl; exact nle rfl) | (apply awp_cond; rfl)); all_goals (intro hc; have hp := hc; first | (simp at hp; done) | ((try simp at hp); first | (exfalso; omega) | skip))) | (apply awp_cond_any; rfl))
          all_goals try (exfalso; first | omega | (simp_all; done))
          all_goals (apply fin_bool; rfl; rfl)
        · have hW : sendW c = (sendC c, askR (sendC c), true, 0) := by unfold sendW; rw [if_pos hk, if_neg hd, if_neg hm]
          rw [hW] at h1
          have hSB := sendL_big hR
          have hl20 : (sendL c).length ≤ 20 := by unfold sendL; simp; omega
          have h2 := a_all c.base (sendL c) (c.cursor + 1) hb.base hSB
          have hok := says_ok hR
          have hcur := hR.cur
          have hke := hR.keys
          have hte := hR.base
          have htm := hR.mine
          have hB := right_iff.1 hR.base
          have hM := right_iff.1 hR.mine
          have hl60 := hB.len
          have hSk : (sendC c).keys = c.keys + 1 := rfl
          have hSa : (sendC c).asked = sendL c := rfl
          have hne : ¬ sendL c = [] := by
            unfold sendL
            rw [List.map_eq_nil_iff, List.take_eq_nil_iff]
            rintro (h | h)
            · cases h
            · exact hd h
          have hml : ((sendL c).map Chg.row).length = (sendL c).length := List.length_map ..
          have hT20 : c.cursor = 1000000 → allT (c.cursor + 1) c.base (sendL c) = ([], 0, 3) := fun h => by
            unfold allT
            rw [if_neg (by simp [hte]), if_neg (by omega), if_pos ⟨by unfold isVer; simp; omega, by cases hx : sendL c with | nil => exact absurd hx hne | cons _ _ => simp⟩]
          generalize sendC c = S at *
          generalize sendL c = SL at *
          subst hSa
          clear hW hE hSB hne hd
          refine acall_intro Tryd.func4 rfl _ Tryd.ntmps4 (Nat.le_of_ble_eq_true rfl) _ Tryd.results4 0 rfl rfl ?_
          repeat' (first | refine walk ?_ | (first | (apply to_call Tryd.func5 rfl rfl; intro hIsFn; refine o_callf hIsFn (a_cbegun ..) ?_; skip) | (apply to_call Tryd.func9 rfl rfl; intro hIsFn; refine o_callf hIsFn (a_treeBegun ..) ?_; skip) | (apply to_call Tryd.func10 rfl rfl; intro hIsFn; refine o_callf hIsFn (a_dbegun ..) ?_; skip) | (apply to_call Tryd.func6 rfl rfl; intro hIsFn; refine o_callp hIsFn (h1 ..) ?_)) | ((first | (apply ops_split_t; rfl; rfl; exact nle rfl) | (apply ops_split_f; rfl; rfl; exact nle rfl) | (apply awp_cond; rfl)); all_goals (intro hc; have hp := hc; first | (simp at hp; done) | ((try simp at hp); first | (exfalso; omega) | skip))) | (apply awp_cond_any; rfl))
          all_goals try (exfalso; first | omega | contradiction | (simp at *; done))
          (refine Awp.red (red_ren (τ := ⟨[(1, .op 0 0 0), (3, .op 1 0 0), (4, .op 2 0 0), (7, .v (.int .i64 ((0 : Nat) : Int)))], [(0, .own false 8 [c.row]), (1, .own false 8 [S.row]), (2, .own false 10 [(askR S).row])], 3⟩) [(0, 0), (1, 1), (2, 2)] rfl ?gts2 ?ghs2) ?_; (case gts2 => (repeat (first | exact tsok_nil | refine p_pure ?_ | refine p_op ?_ | refine p_osr ?_ | refine p_osx ?_ ?_ | refine p_eq ?_ ?_)); all_goals (first | omega | rfl | trace_state)); (case ghs2 => (repeat' (first | exact hsok_nil | refine q_r ?_ | refine q_row ?_ ?_ | refine q_idx ?_ ?_ | exact renl_nil | apply renl_cons | exact ren_pure rfl | refine ren_osq ?_ | refine ren_eq ?_ rfl)); all_goals (first | omega | rfl | trace_state)))
          refine awp_loop (fun n σ => ∃ i : Nat, i ≤ c.base.length ∧ n = c.base.length - i ∧ (∀ x, x ∈ c.base.take i → x.ver ≤ c.cursor) ∧ σ = ⟨[(1, .op 0 0 0), (3, .op 1 0 0), (4, .op 2 0 0), (7, .v (.int .i64 (i : Int)))], [(0, .own false 8 [c.row]), (1, .own false 8 [S.row]), (2, .own false 10 [(askR S).row])], 3⟩) c.base.length ⟨0, Nat.zero_le _, rfl, (by simp), rfl⟩ ?_
          rintro n σ ⟨i, hi, rfl, hsofar, rfl⟩
          by_cases hlt : i < c.base.length
          · have hr := getRow (f := Ent.row) hlt
            repeat' (first | refine walk ?_ | fail | ((first | (apply ops_split_t; rfl; rfl; exact nle rfl) | (apply ops_split_f; rfl; rfl; exact nle rfl) | (apply awp_cond; rfl)); all_goals (intro hc; have hp := hc; first | (simp at hp; done) | ((try simp at hp); first | (exfalso; omega) | skip))) | (apply awp_cond_any; rfl))
            all_goals try (exfalso; omega)
            · apply fin_bool
              rfl
              rfl
            · refine ⟨c.base.length - (i + 1), _, by omega, red_ren (τ := ⟨[(1, .op 0 0 0), (3, .op 1 0 0), (4, .op 2 0 0), (7, .v (.int .i64 ((i + 1 : Nat) : Int)))], [(0, .own false 8 [c.row]), (1, .own false 8 [S.row]), (2, .own false 10 [(askR S).row])], 3⟩) [(0, 0), (1, 1), (2, 2)] rfl ?gts ?ghs, i + 1, by omega, rfl, (mem_take_succ hlt hsofar (by omega)), rfl⟩; (case gts => (repeat (first | exact tsok_nil | refine p_pure ?_ | refine p_op ?_ | refine p_osr ?_ | refine p_osx ?_ ?_ | refine p_eq ?_ ?_)); all_goals trace_state); (case ghs => (repeat (first | exact hsok_nil | refine q_r ?_ | refine q_idx ?_ ?_)); all_goals trace_state)
          obtain rfl : i = c.base.length := by omega
          rw [List.take_length] at hsofar
          by_cases hcm : c.cursor = 1000000
          · rw [hT20 hcm] at h2
            clear hok hsofar hT20
            repeat' (first | refine walk ?_ | (first | (apply to_call Tryd.func11 rfl rfl; intro hIsFn; refine o_callp hIsFn (h2 ..) ?_)) | ((first | (apply ops_split_t; rfl; rfl; exact nle rfl) | (apply ops_split_f; rfl; rfl; exact nle rfl) | (apply awp_cond; rfl)); all_goals (intro hc; have hp := hc; first | (simp at hp; done) | ((try simp at hp); first | (exfalso; omega) | skip))) | (apply awp_cond_any; rfl))
            all_goals try (exfalso; omega)
            all_goals (apply fin_bool; rfl; rfl)
          · obtain ⟨u, hu, hRu, hlast⟩ := hok hsofar hcm
            rw [hu] at h2
            have h3 := a_same u c.mine hRu.big hM.big
            have htu := right_iff.2 hRu
            have htw : twoErr u c.mine = 0 := twoErr_zero.2 ⟨htu, htm⟩
            rw [htw] at h3
            rw [show (decide ((0 : Int) = 0) && likeT u c.mine) = likeT u c.mine from by simp] at h3
            generalize likeT u c.mine = LK at *
            clear hsofar hT20 htw hu
            repeat' (first | refine walk ?_ | (first | (apply to_call Tryd.func11 rfl rfl; intro hIsFn; refine o_callp hIsFn (h2 ..) ?_) | (apply to_call Tryd.func12 rfl rfl; intro hIsFn; refine o_callp hIsFn (h3 ..) ?_)) | ((first | (apply ops_split_t; rfl; rfl; exact nle rfl) | (apply ops_split_f; rfl; rfl; exact nle rfl) | (apply awp_cond; rfl)); all_goals (intro hc; have hp := hc; first | (simp at hp; done) | ((try simp at hp); first | (exfalso; omega) | skip))) | (apply awp_cond_any; rfl))
            all_goals try (exfalso; first | omega | contradiction)
            all_goals (apply fin_bool; rfl)
            all_goals (clear hok h1 h2 h3 hb hR hB hM hRu hSk hz hte htm htu)
            all_goals first
              | rfl
              | (rcases hlast with hlast | hlast <;> first | rfl | (simp_all; done) | (simp_all; omega) | (exfalso; omega) | (exfalso; simp_all; done) | (exfalso; simp_all; omega))
              | trace_state
    · have hW : sendW c = (c, askR c, true, 0) := by unfold sendW; rw [if_neg hk]
      rw [hW] at h1
      refine acall_intro Tryd.func4 rfl _ Tryd.ntmps4 (Nat.le_of_ble_eq_true rfl) _ Tryd.results4 0 rfl rfl ?_
      repeat' (first | refine walk ?_ | (first | (apply to_call Tryd.func5 rfl rfl; intro hIsFn; refine o_callf hIsFn (a_cbegun ..) ?_; skip) | (apply to_call Tryd.func9 rfl rfl; intro hIsFn; refine o_callf hIsFn (a_treeBegun ..) ?_; skip) | (apply to_call Tryd.func10 rfl rfl; intro hIsFn; refine o_callf hIsFn (a_dbegun ..) ?_; skip) | (apply to_call Tryd.func6 rfl rfl; intro hIsFn; refine o_callp hIsFn (h1 ..) ?_)) | ((first | (apply ops_split_t; rfl; rfl; exact nle rfl) | (apply ops_split_f; rfl; rfl; exact nle rfl) | (apply awp_cond; rfl)); all_goals (intro hc; have hp := hc; first | (simp at hp; done) | ((try simp at hp); first | (exfalso; omega) | skip))) | (apply awp_cond_any; rfl))
      all_goals try (exfalso; first | omega | contradiction)
      all_goals (apply fin_bool; rfl; rfl)
  · have hE : sendR c = (noCli, noRqt, false, cliErr c) := by unfold sendR; rw [if_pos hz]
    rw [hE] at h1
    generalize cliErr c = E at *
    clear hE
    refine acall_intro Tryd.func4 rfl _ Tryd.ntmps4 (Nat.le_of_ble_eq_true rfl) _ Tryd.results4 0 rfl rfl ?_
    repeat' (first | refine walk ?_ | (first | (apply to_call Tryd.func5 rfl rfl; intro hIsFn; refine o_callf hIsFn (a_cbegun ..) ?_; skip) | (apply to_call Tryd.func9 rfl rfl; intro hIsFn; refine o_callf hIsFn (a_treeBegun ..) ?_; skip) | (apply to_call Tryd.func10 rfl rfl; intro hIsFn; refine o_callf hIsFn (a_dbegun ..) ?_; skip) | (apply to_call Tryd.func6 rfl rfl; intro hIsFn; refine o_callp hIsFn (h1 ..) ?_)) | ((first | (apply ops_split_t; rfl; rfl; exact nle rfl) | (apply ops_split_f; rfl; rfl; exact nle rfl) | (apply awp_cond; rfl)); all_goals (intro hc; have hp := hc; first | (simp at hp; done) | ((try simp at hp); first | (exfalso; omega) | skip))) | (apply awp_cond_any; rfl))
    all_goals try (exfalso; first | omega | (simp_all; done))
    all_goals (apply fin_bool; rfl; rfl)
theorem law_csays_all (ys : List AV) (h : TyAllW C.tab 140737488355328 [25] ys) : AFn C.P 4 ys (.v (.bool true)) := by
  obtain ⟨_, _, rfl, h0, rfl⟩ := h
  obtain ⟨c, rfl, hc⟩ := tyv_cli h0
  exact law_csays c hc
end Go.Proofs.YtaoffekhpjgmdaaDoor
