/- Clients: the law ClientEdits. -/
import Derived.Test.YtaoffekhpjgmdaaGreatDoorCl6
set_option linter.unusedSimpArgs false
set_option linter.unnecessarySimpa false
set_option linter.unusedVariables false
set_option maxHeartbeats 1000000
namespace Go.Proofs.YtaoffekhpjgmdaaGreatDoor
open Go.Ab Go.RowKit
set_option maxRecDepth 10000
attribute [local irreducible] Awp Ops OpsX Wanted Red ExOk Go.Ab.Fin ACall Rz RzL RzRows Enters ResOk RenV RenVL ArgV ArgVL

theorem orNo_1 {e : Int} {c : Cli} : (orNo e c).1 = if e = 0 then c else noCli := by unfold orNo; split <;> rfl
theorem orNo_2 {e : Int} {c : Cli} : (orNo e c).2 = e := by unfold orNo; split <;> simp_all
theorem orNo_is {e : Int} {c : Cli} : (orNo e c).1 = if (orNo e c).2 = 0 then (orNo e c).1 else noCli := by
  rw [orNo_2, orNo_1]
  split <;> simp_all
theorem apply_right {t : List Ent} {x : Chg} {v : Int} (ht : treeErr t = 0) (h : applyE t x v = 0) : Right (applyL t x v) := by
  have hv : isVer v = true := by
    cases hx : isVer v with
    | true => rfl
    | false =>
      unfold applyE at h
      rw [if_neg (by simp [ht]), if_pos hx] at h
      cases h
  have hr : rawE t x v = 0 := by
    unfold applyE at h
    rw [if_neg (by simp [ht]), if_neg (by simp [hv])] at h
    exact h
  unfold applyL
  rw [if_pos h]
  exact done_right (right_iff.1 ht) hv hr
theorem edit_big {c : Cli} {x : Chg} (hb : CliBig c) (hR : CRight c) : CliBig (orNo (editE c x) { c with mine := applyL c.mine x 1 }).1 := by
  rw [orNo_1]
  split
  · rename_i h
    have hA : applyE c.mine x 1 = 0 := by
      unfold editE at h
      split at h
      · cases h
      · exact h
    exact ⟨hb.who, hb.folder, hb.base, (apply_right hR.mine hA).big, hb.key, hb.asked⟩
  · exact noCli_big
set_option maxHeartbeats 4000000 in
theorem law_cedits (c : Cli) (x : Chg) (hb : CliBig c) (hx : x.small) : AFn C.P 6 [.agg c.row, .agg x.row] (.v (.bool true)) := by
  have h1 := a_edit c x hb hx
  have h2 := a_fetch c hb
  have h3 := a_checkC c hb
  by_cases hz : cliErr c = 0
  · have hR := cright_iff.1 hz
    have h4 := a_editOf c x hR hx
    have hE : editR c x = orNo (editE c x) { c with mine := applyL c.mine x 1 } := by unfold editR; rw [if_neg (by simp [hz])]
    have hF : fetchR c = (⟨2, c.who, c.folder, [], [], [], c.cursor, 0, 0, []⟩, 0) := by unfold fetchR; rw [if_pos hz]
    rw [hE] at h1
    rw [hF] at h2
    rw [hz] at h3
    have hBR := edit_big (x := x) hb hR
    have his := @orNo_is (editE c x) { c with mine := applyL c.mine x 1 }
    generalize orNo (editE c x) { c with mine := applyL c.mine x 1 } = R at *
    obtain ⟨r, e⟩ := R
    have h5 := a_clientIs r r e e hBR hBR
    rw [show (decide (e = e) && decide (r = if e = 0 then r else noCli)) = true from by rw [← his]; simp] at h5
    have h6 := a_sameRqt ⟨2, c.who, c.folder, [], [], [], c.cursor, 0, 0, []⟩ ⟨2, c.who, c.folder, [], [], [], c.cursor, 0, 0, []⟩ (by simp) (by simp)
    rw [decide_eq_true rfl] at h6
    clear his hBR hE hF
    refine acall_intro Tryz.func6 rfl _ Tryz.ntmps6 (Nat.le_of_ble_eq_true rfl) _ Tryz.results6 0 rfl rfl ?_
    repeat' (first | refine walk ?_ | (first | (apply to_call Tryz.func15 rfl rfl; intro hIsFn; refine o_callp hIsFn (h1 ..) ?_) | (apply to_call Tryz.func16 rfl rfl; intro hIsFn; refine o_callp hIsFn (h2 ..) ?_) | (apply to_call Tryz.func10 rfl rfl; intro hIsFn; refine o_callf hIsFn (h3 ..) ?_; skip) | (apply to_call Tryz.func17 rfl rfl; intro hIsFn; refine o_callp hIsFn (h4 ..) ?_) | (apply to_call Tryz.func8 rfl rfl; intro hIsFn; refine o_callf hIsFn (a_cbegun ..) ?_; skip) | (apply to_call Tryz.func9 rfl rfl; intro hIsFn; refine o_callf hIsFn (h5 ..) ?_; skip) | (apply to_call Tryz.func14 rfl rfl; intro hIsFn; refine o_callf hIsFn (h6 ..) ?_; skip)) | ((first | (apply ops_split_t; rfl; rfl; exact nle rfl) | (apply ops_split_f; rfl; rfl; exact nle rfl) | (apply awp_cond; rfl)); all_goals (intro hc; have hp := hc; first | (simp at hp; done) | ((try simp at hp); first | (exfalso; omega) | skip))) | (apply awp_cond_any; rfl))
    all_goals try (exfalso; first | omega | (simp_all; done))
    all_goals (apply fin_bool; rfl; simp_all; done)
  · have hE : editR c x = (noCli, cliErr c) := by unfold editR; rw [if_pos hz]
    have hF : fetchR c = (noRqt, cliErr c) := by unfold fetchR; rw [if_neg hz]
    rw [hE] at h1
    rw [hF] at h2
    generalize cliErr c = E at *
    have h5 := a_clientIs noCli noCli E E noCli_big noCli_big
    rw [if_neg hz, show (decide (E = E) && decide (noCli = noCli)) = true from by simp] at h5
    have h5 : AFn C.P 9 [.agg noCli.row, .v (.int .i64 E), .v (.int .i64 E), .agg [.v (str []), .v (str []), .sl false [], .v (.int .i64 0), .sl false [], .v (str []), .sl false [], .v (.int .i64 0)]] (.v (.bool true)) := h5
    have h6 := a_sameRqt noRqt noRqt (by decide) (by decide)
    rw [decide_eq_true rfl] at h6
    have h6 : AFn C.P 14 [.agg noRqt.row, .agg [.v (.int .i64 0), .v (str []), .v (str []), .v (str []), .v (str []), .v (str []), .v (.int .i64 0), .v (.int .i64 0), .v (.int .i64 0), .sl false []]] (.v (.bool true)) := h6
    clear hE hF
    refine acall_intro Tryz.func6 rfl _ Tryz.ntmps6 (Nat.le_of_ble_eq_true rfl) _ Tryz.results6 0 rfl rfl ?_
    repeat' (first | refine walk ?_ | (first | (apply to_call Tryz.func15 rfl rfl; intro hIsFn; refine o_callp hIsFn (h1 ..) ?_) | (apply to_call Tryz.func16 rfl rfl; intro hIsFn; refine o_callp hIsFn (h2 ..) ?_) | (apply to_call Tryz.func10 rfl rfl; intro hIsFn; refine o_callf hIsFn (h3 ..) ?_; skip) | (apply to_call Tryz.func8 rfl rfl; intro hIsFn; refine o_callf hIsFn (a_cbegun ..) ?_; skip) | (apply to_call Tryz.func9 rfl rfl; intro hIsFn; refine o_callf hIsFn (h5 ..) ?_; skip) | (apply to_call Tryz.func14 rfl rfl; intro hIsFn; refine o_callf hIsFn (h6 ..) ?_; skip)) | ((first | (apply ops_split_t; rfl; rfl; exact nle rfl) | (apply ops_split_f; rfl; rfl; exact nle rfl) | (apply awp_cond; rfl)); all_goals (intro hc; have hp := hc; first | (simp at hp; done) | ((try simp at hp); first | (exfalso; omega) | skip))) | (apply awp_cond_any; rfl))
    all_goals try (exfalso; first | omega | (simp_all; done))
    all_goals (apply fin_bool; rfl; simp_all; done)
theorem law_cedits_all (ys : List AV) (h : TyAllW C.tab 1000000000 [25, 40] ys) : AFn C.P 6 ys (.v (.bool true)) := by
  obtain ⟨_, _, rfl, h0, _, _, rfl, h1, rfl⟩ := h
  obtain ⟨c, rfl, hc⟩ := tyv_cli h0
  obtain ⟨x, rfl, hx⟩ := tyv_chg h1
  exact law_cedits c x hc hx
end Go.Proofs.YtaoffekhpjgmdaaGreatDoor
