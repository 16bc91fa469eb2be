/- Clients: the law ClientSends. -/
import Derived.Test.YtaoffekhpjgmdaaGreatDoorCl6
import Derived.Test.YtaoffekhpjgmdaaGreatDoorCl4
set_option linter.unusedSimpArgs false
set_option linter.unnecessarySimpa false
set_option linter.unusedVariables false
set_option maxHeartbeats 1000000
namespace Go.Proofs.YtaoffekhpjgmdaaGreatDoor
open Go.Ab Go.RowKit
set_option maxRecDepth 10000
attribute [local irreducible] Awp Ops OpsX Wanted Red ExOk Go.Ab.Fin ACall Rz RzL RzRows Enters ResOk RenV RenVL ArgV ArgVL

theorem sendL_big {c : Cli} (hR : CRight c) : CBig (sendL c) := by
  have ha := right_iff.1 hR.base
  have hb := right_iff.1 hR.mine
  refine ⟨fun y hy => ?_, by unfold sendL; simp; omega⟩
  unfold sendL at hy
  obtain ⟨x, hx, rfl⟩ := List.mem_map.1 hy
  have hc := List.mem_of_mem_take hx
  show x.path.length ≤ _ ∧ x.to.length ≤ _ ∧ x.text.length ≤ _
  unfold rawD at hc
  rcases List.mem_append.1 hc with h | h
  · obtain ⟨p, hp, rfl⟩ := List.mem_map.1 h
    rcases gones_sub c.mine c.base [] p hp with h0 | ⟨z, hz, hzp, _⟩
    · cases h0
    · have := pathErr_small (entErr_zero (ha.ent z hz)).1
      rw [hzp] at this
      exact ⟨by show p.length ≤ _; omega, by show ([] : Str).length ≤ _; simp, by show ([] : Str).length ≤ _; simp⟩
  · obtain ⟨x, hxf, rfl⟩ := List.mem_map.1 h
    have h1 := entErr_zero (hb.ent x (List.mem_filter.1 hxf).1)
    have := pathErr_small h1.1
    have := h1.2.2.1
    exact ⟨by show x.path.length ≤ _; omega, by show ([] : Str).length ≤ _; simp, by show x.text.length ≤ _; omega⟩
theorem sendC_big {c : Cli} (hb : CliBig c) (hR : CRight c) : CliBig (sendC c) := by
  refine ⟨hb.who, hb.folder, hb.base, hb.mine, ?_, sendL_big hR⟩
  have hk := hR.keys
  obtain ⟨k, hkk⟩ : ∃ k : Nat, c.keys + 1 = (k : Int) := ⟨(c.keys + 1).toNat, by omega⟩
  show (c.who ++ [45] ++ Lib.itoa (c.keys + 1)).length ≤ _
  rw [hkk, itoa_nat]
  have h1 := dig_len k
  have h2 := hR.lwho
  simp only [List.length_append, List.length_singleton]
  omega
theorem sendW_big {c : Cli} (hb : CliBig c) (hR : CRight c) : CliBig (sendW c).1 ∧ (sendW c).2.1.chs.length ≤ 1000000000 := by
  unfold sendW
  split
  · split
    · exact ⟨hb, by show ([] : List Chg).length ≤ _; simp⟩
    · split
      · exact ⟨noCli_big, by show ([] : List Chg).length ≤ _; simp⟩
      · exact ⟨sendC_big hb hR, (sendL_big hR).len⟩
  · exact ⟨hb, hb.asked.len⟩
theorem sendW_is {c : Cli} : (sendW c).1 = if (sendW c).2.2.2 = 0 then (sendW c).1 else noCli := by
  unfold sendW
  split
  · split
    · rfl
    · split <;> rfl
  · rfl
set_option maxHeartbeats 4000000 in
theorem law_csends (c : Cli) (hb : CliBig c) : AFn C.P 5 [.agg c.row] (.v (.bool true)) := by
  have h1 := a_send c hb
  have h3 := a_checkC c hb
  by_cases hz : cliErr c = 0
  · have hR := cright_iff.1 hz
    have h4 := a_sendOf c hR
    have hE : sendR c = sendW c := by unfold sendR; rw [if_neg (by simp [hz])]
    rw [hE] at h1
    rw [hz] at h3
    have hBR := sendW_big hb hR
    have his := @sendW_is c
    generalize sendW c = R at *
    obtain ⟨r, q, ok, e⟩ := R
    have h5 := a_clientIs r r e e hBR.1 hBR.1
    rw [show (decide (e = e) && decide (r = if e = 0 then r else noCli)) = true from by rw [← his]; simp] at h5
    have h6 := a_sameRqt q q hBR.2 hBR.2
    rw [decide_eq_true rfl] at h6
    clear his hBR hE
    refine acall_intro Tryz.func5 rfl _ Tryz.ntmps5 (Nat.le_of_ble_eq_true rfl) _ Tryz.results5 0 rfl rfl ?_
    repeat' (first | refine walk ?_ | (first | (apply to_call Tryz.func12 rfl rfl; intro hIsFn; refine o_callp hIsFn (h1 ..) ?_) | (apply to_call Tryz.func10 rfl rfl; intro hIsFn; refine o_callf hIsFn (h3 ..) ?_; skip) | (apply to_call Tryz.func13 rfl rfl; intro hIsFn; refine o_callp hIsFn (h4 ..) ?_) | (apply to_call Tryz.func8 rfl rfl; intro hIsFn; refine o_callf hIsFn (a_cbegun ..) ?_; skip) | (apply to_call Tryz.func9 rfl rfl; intro hIsFn; refine o_callf hIsFn (h5 ..) ?_; skip) | (apply to_call Tryz.func14 rfl rfl; intro hIsFn; refine o_callf hIsFn (h6 ..) ?_; skip) | (refine o_beq ?_)) | ((first | (apply ops_split_t; rfl; rfl; exact nle rfl) | (apply ops_split_f; rfl; rfl; exact nle rfl) | (apply awp_cond; rfl)); all_goals (intro hc; have hp := hc; first | (simp at hp; done) | ((try simp at hp); first | (exfalso; omega) | skip))) | (apply awp_cond_any; rfl))
    all_goals try (exfalso; first | omega | (simp_all; done))
    all_goals (apply fin_bool; rfl; simp_all; done)
  · have hE : sendR c = (noCli, noRqt, false, cliErr c) := by unfold sendR; rw [if_pos hz]
    rw [hE] at h1
    generalize cliErr c = E at *
    have h5 := a_clientIs noCli noCli E E noCli_big noCli_big
    rw [if_neg hz, show (decide (E = E) && decide (noCli = noCli)) = true from by simp] at h5
    have h5 : AFn C.P 9 [.agg noCli.row, .v (.int .i64 E), .v (.int .i64 E), .agg [.v (str []), .v (str []), .sl false [], .v (.int .i64 0), .sl false [], .v (str []), .sl false [], .v (.int .i64 0)]] (.v (.bool true)) := h5
    have h6 := a_sameRqt noRqt noRqt (by decide) (by decide)
    rw [decide_eq_true rfl] at h6
    have h6 : AFn C.P 14 [.agg noRqt.row, .agg [.v (.int .i64 0), .v (str []), .v (str []), .v (str []), .v (str []), .v (str []), .v (.int .i64 0), .v (.int .i64 0), .v (.int .i64 0), .sl false []]] (.v (.bool true)) := h6
    clear hE
    refine acall_intro Tryz.func5 rfl _ Tryz.ntmps5 (Nat.le_of_ble_eq_true rfl) _ Tryz.results5 0 rfl rfl ?_
    repeat' (first | refine walk ?_ | (first | (apply to_call Tryz.func12 rfl rfl; intro hIsFn; refine o_callp hIsFn (h1 ..) ?_) | (apply to_call Tryz.func10 rfl rfl; intro hIsFn; refine o_callf hIsFn (h3 ..) ?_; skip) | (apply to_call Tryz.func8 rfl rfl; intro hIsFn; refine o_callf hIsFn (a_cbegun ..) ?_; skip) | (apply to_call Tryz.func9 rfl rfl; intro hIsFn; refine o_callf hIsFn (h5 ..) ?_; skip) | (apply to_call Tryz.func14 rfl rfl; intro hIsFn; refine o_callf hIsFn (h6 ..) ?_; skip) | (refine o_beq ?_)) | ((first | (apply ops_split_t; rfl; rfl; exact nle rfl) | (apply ops_split_f; rfl; rfl; exact nle rfl) | (apply awp_cond; rfl)); all_goals (intro hc; have hp := hc; first | (simp at hp; done) | ((try simp at hp); first | (exfalso; omega) | skip))) | (apply awp_cond_any; rfl))
    all_goals try (exfalso; first | omega | (simp_all; done))
    all_goals (apply fin_bool; rfl; simp_all; done)
theorem law_csends_all (ys : List AV) (h : TyAllW C.tab 1000000000 [25] ys) : AFn C.P 5 ys (.v (.bool true)) := by
  obtain ⟨_, _, rfl, h0, rfl⟩ := h
  obtain ⟨c, rfl, hc⟩ := tyv_cli h0
  exact law_csends c hc
end Go.Proofs.YtaoffekhpjgmdaaGreatDoor
