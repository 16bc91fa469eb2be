/- Clients in the abstract layer, 5: the reference's CheckClient, EditOf, SameClient, SameRequest. -/
import Derived.Test.YtaoffekhpjgmdaaGreatDoorCl2
import Derived.Test.YtaoffekhpjgmdaaGreatDoorSc
import Derived.Test.YtaoffekhpjgmdaaGreatDoorTu7
set_option linter.unusedSimpArgs false
set_option linter.unnecessarySimpa false
set_option linter.unusedVariables false
set_option maxHeartbeats 1000000
namespace Go.Proofs.YtaoffekhpjgmdaaGreatDoor
open Go.Ab Go.RowKit
set_option maxRecDepth 10000
attribute [local irreducible] Awp Ops OpsX Wanted Red ExOk Go.Ab.Fin ACall Rz RzL RzRows Enters ResOk RenV RenVL ArgV ArgVL

theorem a_isCur1M (n : Int) : AFn C.P 22 [.v (.int .i64 n)] (.v (.bool (in1M n))) := by
  refine acall_intro Tryz.func22 rfl _ Tryz.ntmps22 (Nat.le_of_ble_eq_true rfl) _ Tryz.results22 0 rfl rfl ?_
  repeat' (first | refine walk ?_ | fail | ((first | (apply ops_split_t; rfl; rfl; exact nle rfl) | (apply ops_split_f; rfl; rfl; exact nle rfl) | (apply awp_cond; rfl)); all_goals (intro hc; have hp := hc; first | (simp at hp; done) | ((try simp at hp); first | (exfalso; omega) | skip))) | (apply awp_cond_any; rfl))
  all_goals (apply fin_bool; rfl; (simp_all [in1M]; try omega))
set_option maxHeartbeats 4000000 in
theorem a_checkC (c : Cli) (hb : CliBig c) : AFn C.P 10 [.agg c.row] (.v (.int .i64 (cliErr c))) := by
  have h1 := g_isNameR c.who (by have := hb.who; omega)
  have h2 := g_isNameR c.folder (by have := hb.folder; omega)
  have h3 := a_isKeyR c.who (by have := hb.who; omega)
  have h4 := a_isKeyR c.key (by have := hb.key; omega)
  have h5 := a_isCur1M c.cursor
  have h6 := a_isCur1M c.keys
  have hct1 := a_checkTreeR c.base hb.base
  have hct2 := a_checkTreeR c.mine hb.mine
  have hl := hb.asked.len
  have hE : cliErr c = if cliHead c then 1 else if ¬ treeErr c.base = 0 then treeErr c.base else if ¬ treeErr c.mine = 0 then treeErr c.mine else cliTail c := rfl
  have hH : cliHead c ↔ (isName c.who = false ∨ isName c.folder = false ∨ isKey c.who = false ∨ 10 < c.who.length) := Iff.rfl
  have hT : cliTail c = if in1M c.cursor = false ∨ in1M c.keys = false then 3 else if ¬ c.key = [] ∧ isKey c.key = false then 1 else if ¬ (c.key = [] ↔ c.asked = []) then 4 else if 20 < c.asked.length then 2 else 0 := rfl
  have hn0 : c.asked = [] ↔ c.asked.length = 0 := List.length_eq_zero_iff.symm
  have hml : (c.asked.map Chg.row).length = c.asked.length := List.length_map ..
  generalize isName c.who = n1 at *
  generalize isName c.folder = n2 at *
  generalize isKey c.who = n3 at *
  generalize isKey c.key = n4 at *
  generalize in1M c.cursor = n5 at *
  generalize in1M c.keys = n6 at *
  generalize cliTail c = T at *
  generalize cliErr c = E at *
  generalize treeErr c.base = e1 at *
  generalize treeErr c.mine = e2 at *
  by_cases hh : cliHead c
  · rw [if_pos hh] at hE
    rw [hE]
    rw [hH] at hh
    refine acall_intro Tryz.func10 rfl _ Tryz.ntmps10 (Nat.le_of_ble_eq_true rfl) _ Tryz.results10 0 rfl rfl ?_
    cases n1 <;> cases n2 <;> cases n3
    all_goals (repeat' (first | refine walk ?_ | (first | (apply to_call Tryz.func19 rfl rfl; intro hIsFn; refine o_callf hIsFn (h1 ..) ?_; skip) | (apply to_call Tryz.func19 rfl rfl; intro hIsFn; refine o_callf hIsFn (h2 ..) ?_; skip) | (apply to_call Tryz.func20 rfl rfl; intro hIsFn; refine o_callf hIsFn (h3 ..) ?_; skip)) | ((first | (apply ops_split_t; rfl; rfl; exact nle rfl) | (apply ops_split_f; rfl; rfl; exact nle rfl) | (apply awp_cond; rfl)); all_goals (intro hc; have hp := hc; first | (simp at hp; done) | ((try simp at hp); first | (exfalso; omega) | skip))) | (apply awp_cond_any; rfl)))
    all_goals try (exfalso; first | omega | (simp_all; omega))
    all_goals (apply fin_int; rfl; rfl)
  · rw [if_neg hh] at hE
    rw [hH] at hh
    simp only [not_or, Bool.not_eq_false, Nat.not_lt] at hh
    obtain ⟨rfl, rfl, rfl, hw10⟩ := hh
    clear hH
    by_cases hz1 : e1 = 0
    · subst hz1
      rw [if_neg (by simp)] at hE
      by_cases hz2 : e2 = 0
      · subst hz2
        rw [if_neg (by simp)] at hE
        subst hE
        refine acall_intro Tryz.func10 rfl _ Tryz.ntmps10 (Nat.le_of_ble_eq_true rfl) _ Tryz.results10 0 rfl rfl ?_
        repeat' (first | refine walk ?_ | (first | (apply to_call Tryz.func19 rfl rfl; intro hIsFn; refine o_callf hIsFn (h1 ..) ?_; skip) | (apply to_call Tryz.func19 rfl rfl; intro hIsFn; refine o_callf hIsFn (h2 ..) ?_; skip) | (apply to_call Tryz.func20 rfl rfl; intro hIsFn; refine o_callf hIsFn (h3 ..) ?_; skip) | (apply to_call Tryz.func21 rfl rfl; intro hIsFn; refine o_callf hIsFn (hct1 ..) ?_; skip) | (apply to_call Tryz.func21 rfl rfl; intro hIsFn; refine o_callf hIsFn (hct2 ..) ?_; skip) | (apply to_call Tryz.func22 rfl rfl; intro hIsFn; refine o_callf hIsFn (h5 ..) ?_; skip) | (apply to_call Tryz.func22 rfl rfl; intro hIsFn; refine o_callf hIsFn (h6 ..) ?_; skip) | (apply to_call Tryz.func20 rfl rfl; intro hIsFn; refine o_callf hIsFn (h4 ..) ?_; skip) | (refine o_beq ?_)) | ((first | (apply ops_split_t; rfl; rfl; exact nle rfl) | (apply ops_split_f; rfl; rfl; exact nle rfl) | (apply awp_cond; rfl)); all_goals (intro hc; have hp := hc; first | (simp at hp; done) | ((try simp at hp); first | (exfalso; omega) | skip))) | (apply awp_cond_any; rfl))
        all_goals try (exfalso; omega)
        all_goals (apply fin_int; rfl; rw [hT]; clear hT h4 h5 h6 hb h1 h2 h3 hct1 hct2; rw [hml] at *; clear hml)
        all_goals (by_cases ha : c.asked = [])
        all_goals (first | (have hl1 : c.asked.length = 0 := hn0.1 ha) | (have hl1 : ¬ c.asked.length = 0 := fun h => ha (hn0.2 h)))
        all_goals clear hn0
        all_goals ((repeat' split) <;> first | rfl | (exfalso; omega) | (exfalso; simp_all; done) | (exfalso; simp_all; omega))
      · rw [if_pos hz2] at hE
        subst hE
        clear hT
        refine acall_intro Tryz.func10 rfl _ Tryz.ntmps10 (Nat.le_of_ble_eq_true rfl) _ Tryz.results10 0 rfl rfl ?_
        repeat' (first | refine walk ?_ | (first | (apply to_call Tryz.func19 rfl rfl; intro hIsFn; refine o_callf hIsFn (h1 ..) ?_; skip) | (apply to_call Tryz.func19 rfl rfl; intro hIsFn; refine o_callf hIsFn (h2 ..) ?_; skip) | (apply to_call Tryz.func20 rfl rfl; intro hIsFn; refine o_callf hIsFn (h3 ..) ?_; skip) | (apply to_call Tryz.func21 rfl rfl; intro hIsFn; refine o_callf hIsFn (hct1 ..) ?_; skip) | (apply to_call Tryz.func21 rfl rfl; intro hIsFn; refine o_callf hIsFn (hct2 ..) ?_; skip)) | ((first | (apply ops_split_t; rfl; rfl; exact nle rfl) | (apply ops_split_f; rfl; rfl; exact nle rfl) | (apply awp_cond; rfl)); all_goals (intro hc; have hp := hc; first | (simp at hp; done) | ((try simp at hp); first | (exfalso; omega) | skip))) | (apply awp_cond_any; rfl))
        all_goals try (exfalso; omega)
        all_goals (apply fin_int; rfl; rfl)
    · rw [if_pos hz1] at hE
      subst hE
      clear hT
      refine acall_intro Tryz.func10 rfl _ Tryz.ntmps10 (Nat.le_of_ble_eq_true rfl) _ Tryz.results10 0 rfl rfl ?_
      repeat' (first | refine walk ?_ | (first | (apply to_call Tryz.func19 rfl rfl; intro hIsFn; refine o_callf hIsFn (h1 ..) ?_; skip) | (apply to_call Tryz.func19 rfl rfl; intro hIsFn; refine o_callf hIsFn (h2 ..) ?_; skip) | (apply to_call Tryz.func20 rfl rfl; intro hIsFn; refine o_callf hIsFn (h3 ..) ?_; skip) | (apply to_call Tryz.func21 rfl rfl; intro hIsFn; refine o_callf hIsFn (hct1 ..) ?_; skip)) | ((first | (apply ops_split_t; rfl; rfl; exact nle rfl) | (apply ops_split_f; rfl; rfl; exact nle rfl) | (apply awp_cond; rfl)); all_goals (intro hc; have hp := hc; first | (simp at hp; done) | ((try simp at hp); first | (exfalso; omega) | skip))) | (apply awp_cond_any; rfl))
      all_goals try (exfalso; omega)
      all_goals (apply fin_int; rfl; rfl)
theorem a_editOf (c : Cli) (x : Chg) (hR : CRight c) (hx : x.small) : AFn C.P 17 [.agg c.row, .agg x.row] (resC (orNo (editE c x) { c with mine := applyL c.mine x 1 })) := by
  have hM := right_iff.1 hR.mine
  have h2 := a_changeOf c.mine x 1 hM.len hM.rise (fun y hy => (entErr_zero (hM.ent y hy)).1) hx
  have hA : applyE c.mine x 1 = rawE c.mine x 1 := by unfold applyE; rw [if_neg (by simp [hR.mine]), if_neg (by decide)]
  have hL : applyL c.mine x 1 = rawL c.mine x 1 := by unfold applyL rawL; rw [hA]
  have hE : editE c x = if ¬ x.base = -1 then 3 else rawE c.mine x 1 := by unfold editE; rw [hA]
  rw [hL]
  generalize editE c x = G at *
  generalize rawL c.mine x 1 = L at *
  generalize rawE c.mine x 1 = A at *
  clear hA hL
  by_cases hb1 : x.base = -1
  · rw [if_neg (by simp [hb1])] at hE
    subst hE
    by_cases hA : G = 0
    · subst hA
      refine acall_intro Tryz.func17 rfl _ Tryz.ntmps17 (Nat.le_of_ble_eq_true rfl) _ Tryz.results17 0 rfl rfl ?_
      repeat' (first | refine walk ?_ | (first | (apply to_call Tryz.func35 rfl rfl; intro hIsFn; refine o_callp hIsFn (h2 ..) ?_)) | ((first | (apply awp_cond; rfl)); all_goals (intro hc; have hp := hc; first | (simp at hp; done) | ((try simp at hp); first | (exfalso; omega) | skip))) | (apply awp_cond_any; rfl))
      all_goals try (exfalso; omega)
      all_goals ((refine f_pure (rs := [.cell 4 25, .tmp 5]) ?_; (repeat' (first | exact rzl_nil | apply rzl_cons | exact rz_pure rfl | exact rz_ex | exact z_os | apply rz_agg | apply rz_tup | apply rz_clo | apply rz_int | apply rz_bool | apply rz_str | refine z_eq ?_ | apply rz_sl)); all_goals trace_state))
    · rw [show orNo G { c with mine := L } = (noCli, G) from if_neg hA]
      refine acall_intro Tryz.func17 rfl _ Tryz.ntmps17 (Nat.le_of_ble_eq_true rfl) _ Tryz.results17 0 rfl rfl ?_
      repeat' (first | refine walk ?_ | (first | (apply to_call Tryz.func35 rfl rfl; intro hIsFn; refine o_callp hIsFn (h2 ..) ?_)) | ((first | (apply awp_cond; rfl)); all_goals (intro hc; have hp := hc; first | (simp at hp; done) | ((try simp at hp); first | (exfalso; omega) | skip))) | (apply awp_cond_any; rfl))
      all_goals try (exfalso; omega)
      all_goals ((refine f_pure (rs := [.cell 4 25, .tmp 5]) ?_; (repeat' (first | exact rzl_nil | apply rzl_cons | exact rz_pure rfl | exact rz_ex | exact z_os | apply rz_agg | apply rz_tup | apply rz_clo | apply rz_int | apply rz_bool | apply rz_str | refine z_eq ?_ | apply rz_sl)); all_goals trace_state))
  · rw [if_pos hb1] at hE
    subst hE
    rw [show orNo 3 { c with mine := L } = (noCli, 3) from rfl]
    refine acall_intro Tryz.func17 rfl _ Tryz.ntmps17 (Nat.le_of_ble_eq_true rfl) _ Tryz.results17 0 rfl rfl ?_
    repeat' (first | refine walk ?_ | fail | ((first | (apply awp_cond; rfl)); all_goals (intro hc; have hp := hc; first | (simp at hp; done) | ((try simp at hp); first | (exfalso; omega) | skip))) | (apply awp_cond_any; rfl))
    all_goals try (exfalso; omega)
    all_goals ((refine f_pure (rs := [.cell 4 25, .tmp 5]) ?_; (repeat' (first | exact rzl_nil | apply rzl_cons | exact rz_pure rfl | exact rz_ex | exact z_os | apply rz_agg | apply rz_tup | apply rz_clo | apply rz_int | apply rz_bool | apply rz_str | refine z_eq ?_ | apply rz_sl)); all_goals trace_state))
theorem a_sameCli (a b : Cli) (h1 : a.base.length ≤ 1000000000) (h2 : b.base.length ≤ 1000000000) (h3 : a.mine.length ≤ 1000000000) (h4 : b.mine.length ≤ 1000000000) (h5 : a.asked.length ≤ 1000000000) (h6 : b.asked.length ≤ 1000000000) :
    AFn C.P 18 [.agg a.row, .agg b.row] (.v (.bool (decide (a = b)))) := by
  have g1 := a_sameEntries a.base b.base h1 h2
  have g2 := a_sameEntries a.mine b.mine h3 h4
  have g3 := a_sameChanges a.asked b.asked h5 h6
  have hin : decide (a = b) = (decide (a.who = b.who) && decide (a.folder = b.folder) && decide (a.base = b.base) && decide (a.cursor = b.cursor) && decide (a.mine = b.mine) && decide (a.key = b.key) && decide (a.asked = b.asked) && decide (a.keys = b.keys)) := by
    obtain ⟨x1, x2, x3, x4, x5, x6, x7, x8⟩ := a
    obtain ⟨y1, y2, y3, y4, y5, y6, y7, y8⟩ := b
    rw [Bool.eq_iff_iff]; simp [and_assoc]
  rw [hin]
  generalize decide (a.base = b.base) = D1 at *
  generalize decide (a.mine = b.mine) = D2 at *
  generalize decide (a.asked = b.asked) = D3 at *
  clear hin h1 h2 h3 h4 h5 h6
  refine acall_intro Tryz.func18 rfl _ Tryz.ntmps18 (Nat.le_of_ble_eq_true rfl) _ Tryz.results18 0 rfl rfl ?_
  repeat' (first | refine walk ?_ | (first | (apply to_call Tryz.func36 rfl rfl; intro hIsFn; refine o_callf hIsFn (g1 ..) ?_; skip) | (apply to_call Tryz.func36 rfl rfl; intro hIsFn; refine o_callf hIsFn (g2 ..) ?_; skip) | (apply to_call Tryz.func33 rfl rfl; intro hIsFn; refine o_callf hIsFn (g3 ..) ?_; skip)) | ((first | (apply ops_split_t; rfl; rfl; exact nle rfl) | (apply ops_split_f; rfl; rfl; exact nle rfl) | (apply awp_cond; rfl)); all_goals (intro hc; have hp := hc; first | (simp at hp; done) | ((try simp at hp); first | (exfalso; omega) | skip))) | (apply awp_cond_any; rfl))
  all_goals (apply fin_bool; rfl; clear g1 g2 g3; simp_all)
theorem a_sameRqt (a b : Rqt) (h5 : a.chs.length ≤ 1000000000) (h6 : b.chs.length ≤ 1000000000) : AFn C.P 14 [.agg a.row, .agg b.row] (.v (.bool (decide (a = b)))) := by
  have g3 := a_sameChanges a.chs b.chs h5 h6
  have hin : decide (a = b) = (decide (a.kind = b.kind) && decide (a.who = b.who) && decide (a.folder = b.folder) && decide (a.name = b.name) && decide (a.key = b.key) && decide (a.text = b.text) && decide (a.number = b.number) && decide (a.offset = b.offset) && decide (a.base = b.base) && decide (a.chs = b.chs)) := by
    obtain ⟨x1, x2, x3, x4, x5, x6, x7, x8, x9, x10⟩ := a
    obtain ⟨y1, y2, y3, y4, y5, y6, y7, y8, y9, y10⟩ := b
    rw [Bool.eq_iff_iff]; simp [and_assoc]
  rw [hin]
  generalize decide (a.chs = b.chs) = D3 at *
  clear hin h5 h6
  refine acall_intro Tryz.func14 rfl _ Tryz.ntmps14 (Nat.le_of_ble_eq_true rfl) _ Tryz.results14 0 rfl rfl ?_
  repeat' (first | refine walk ?_ | (first | (apply to_call Tryz.func33 rfl rfl; intro hIsFn; refine o_callf hIsFn (g3 ..) ?_; skip)) | ((first | (apply ops_split_t; rfl; rfl; exact nle rfl) | (apply ops_split_f; rfl; rfl; exact nle rfl) | (apply awp_cond; rfl)); all_goals (intro hc; have hp := hc; first | (simp at hp; done) | ((try simp at hp); first | (exfalso; omega) | skip))) | (apply awp_cond_any; rfl))
  all_goals (apply fin_bool; rfl; clear g3; simp_all)
end Go.Proofs.YtaoffekhpjgmdaaGreatDoor
