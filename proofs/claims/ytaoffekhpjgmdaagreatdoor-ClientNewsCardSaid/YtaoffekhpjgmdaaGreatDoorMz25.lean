import Derived.Test.YtaoffekhpjgmdaaGreatDoorMz23
import Derived.Test.YtaoffekhpjgmdaaGreatDoorMz24
/- Clients in the abstract layer, 1: within, Check. -/
set_option linter.unusedSimpArgs false
set_option linter.unnecessarySimpa false
set_option linter.unusedVariables false
set_option maxHeartbeats 1000000
namespace Go.Proofs.YtaoffekhpjgmdaaGreatDoor
open Go.Ab Go.RowKit
set_option maxRecDepth 10000
attribute [local irreducible] Awp Ops OpsX Wanted Red ExOk Go.Ab.Fin ACall Rz RzL RzRows Enters ResOk RenV RenVL ArgV ArgVL

theorem a_within1 (n : Int) : AFn C.P 26 [.v (.int .i64 n), .v (.int .i64 0), .v (.int .i64 1000000)] (.v (.bool (in1M n))) := by
  refine acall_intro Tryz.func26 rfl _ Tryz.ntmps26 (Nat.le_of_ble_eq_true rfl) _ Tryz.results26 0 rfl rfl ?_
  repeat' (first | refine walk ?_ | fail | ((first | (apply ops_split_t; rfl; rfl; exact nle rfl) | (apply ops_split_f; rfl; rfl; exact nle rfl) | (apply awp_cond; rfl)); all_goals (intro hc; have hp := hc; first | (simp at hp; done) | ((try simp at hp); first | (exfalso; omega) | skip))) | (apply awp_cond_any; rfl))
  all_goals (apply fin_bool; rfl; (simp_all [in1M]; try omega))
set_option maxHeartbeats 4000000 in
theorem a_ccheck (c : Cli) (hb : CliBig c) : AFn C.P 11 [.agg c.row] (.v (.int .i64 (cliErr c))) := by
  have h1 := g_isName c.who (by have := hb.who; omega)
  have h2 := g_isName c.folder (by have := hb.folder; omega)
  have h3 := a_isKey c.who
  have h4 := a_isKey c.key
  have h5 := a_within1 c.cursor
  have h6 := a_within1 c.keys
  have hl := hb.asked.len
  have hE : cliErr c = if cliHead c then 1 else if ¬ treeErr c.base = 0 then treeErr c.base else if ¬ treeErr c.mine = 0 then treeErr c.mine else cliTail c := rfl
  have hH : cliHead c ↔ (isName c.who = false ∨ isName c.folder = false ∨ isKey c.who = false ∨ 10 < c.who.length) := Iff.rfl
  have hT : cliTail c = if in1M c.cursor = false ∨ in1M c.keys = false then 3 else if ¬ c.key = [] ∧ isKey c.key = false then 1 else if ¬ (c.key = [] ↔ c.asked = []) then 4 else if 20 < c.asked.length then 2 else 0 := rfl
  have hn0 : c.asked = [] ↔ c.asked.length = 0 := List.length_eq_zero_iff.symm
  have hml : (c.asked.map Chg.row).length = c.asked.length := List.length_map ..
  generalize isName c.who = n1 at *
  generalize isName c.folder = n2 at *
  generalize isKey c.who = n3 at *
  generalize isKey c.key = n4 at *
  generalize in1M c.cursor = n5 at *
  generalize in1M c.keys = n6 at *
  generalize cliTail c = T at *
  generalize cliErr c = E at *
  by_cases hh : cliHead c
  · rw [if_pos hh] at hE
    rw [hE]
    rw [hH] at hh
    refine acall_intro Tryz.func11 rfl _ Tryz.ntmps11 (Nat.le_of_ble_eq_true rfl) _ Tryz.results11 0 rfl rfl ?_
    cases n1 <;> cases n2 <;> cases n3
    all_goals (repeat' (first | refine walk ?_ | (first | (apply to_call Tryz.func23 rfl rfl; intro hIsFn; refine o_callf hIsFn (h1 ..) ?_; skip) | (apply to_call Tryz.func23 rfl rfl; intro hIsFn; refine o_callf hIsFn (h2 ..) ?_; skip) | (apply to_call Tryz.func24 rfl rfl; intro hIsFn; refine o_callf hIsFn (h3 ..) ?_; skip)) | ((first | (apply ops_split_t; rfl; rfl; exact nle rfl) | (apply ops_split_f; rfl; rfl; exact nle rfl) | (apply awp_cond; rfl)); all_goals (intro hc; have hp := hc; first | (simp at hp; done) | ((try simp at hp); first | (exfalso; omega) | skip))) | (apply awp_cond_any; rfl)))
    all_goals try (exfalso; first | omega | (simp_all; omega))
    all_goals (apply fin_int; rfl; rfl)
  · rw [if_neg hh] at hE
    rw [hH] at hh
    simp only [not_or, Bool.not_eq_false, Nat.not_lt] at hh
    obtain ⟨rfl, rfl, rfl, hw10⟩ := hh
    have hEl : ∀ x, x ∈ ([c.base, c.mine] : List (List Ent)) → EBig x := by
      intro x hx
      simp only [List.mem_cons, List.not_mem_nil, or_false] at hx
      rcases hx with rfl | rfl
      · exact hb.base
      · exact hb.mine
    have hE : E = if ¬ firstErr treeErr [c.base, c.mine] = 0 then firstErr treeErr [c.base, c.mine] else T := by
      rw [hE]
      simp only [firstErr]
      by_cases hz1 : treeErr c.base = 0 <;> by_cases hz2 : treeErr c.mine = 0 <;> simp [hz1, hz2]
    clear hH
    refine acall_intro Tryz.func11 rfl _ Tryz.ntmps11 (Nat.le_of_ble_eq_true rfl) _ Tryz.results11 0 rfl rfl ?_
    repeat' (first | refine walk ?_ | (first | (apply to_call Tryz.func23 rfl rfl; intro hIsFn; refine o_callf hIsFn (h1 ..) ?_; skip) | (apply to_call Tryz.func23 rfl rfl; intro hIsFn; refine o_callf hIsFn (h2 ..) ?_; skip) | (apply to_call Tryz.func24 rfl rfl; intro hIsFn; refine o_callf hIsFn (h3 ..) ?_; skip) | (refine o_fzl ?_)) | ((first | (apply ops_split_t; rfl; rfl; exact nle rfl) | (apply ops_split_f; rfl; rfl; exact nle rfl) | (apply awp_cond; rfl)); all_goals (intro hc; have hp := hc; first | (simp at hp; done) | ((try simp at hp); first | (exfalso; omega) | skip))) | (apply awp_cond_any; rfl))
    all_goals try (exfalso; first | omega | (simp_all; omega))
    (refine Awp.red (red_ren (τ := ⟨[(1, .op 0 0 0), (32, .sl true (([c.base, c.mine] : List (List Ent)).map treeRow)), (33, .v (.int .i64 ((([c.base, c.mine] : List (List Ent)).length : Nat) : Int))), (34, .v (.int .i64 ((0 : Nat) : Int)))], [(0, .own false 8 [c.row])], 1⟩) [(0, 0)] rfl ?gts ?ghs) ?gmain; (case gts => (repeat (first | exact tsok_nil | refine p_pure ?_ | refine p_op ?_ | refine p_os ?_ | refine p_eq ?_ ?_))); (case ghs => (repeat (first | exact hsok_nil | refine q_id ?_ | refine q_idx ?_ ?_))))
    clear h1 h2 h3
    have hl2 : ([c.base, c.mine] : List (List Ent)).length = 2 := rfl
    generalize ([c.base, c.mine] : List (List Ent)) = l at *
    refine awp_loop (fun n σ => ∃ i : Nat, i ≤ l.length ∧ n = l.length - i ∧ (∀ t, t ∈ l.take i → treeErr t = 0) ∧ σ = ⟨[(1, .op 0 0 0), (32, .sl true (l.map treeRow)), (33, .v (.int .i64 (l.length : Int))), (34, .v (.int .i64 (i : Int)))], [(0, .own false 8 [c.row])], 1⟩) l.length ⟨0, Nat.zero_le _, rfl, (by simp), rfl⟩ ?_
    rintro n σ ⟨i, hi, rfl, hsofar, rfl⟩
    by_cases hlt : i < l.length
    · have hr := getRow (f := treeRow) hlt
      have hct := a_tcheck l[i] (hEl _ (List.getElem_mem _))
      repeat' (first | refine walk ?_ | (first | (apply to_call Tryz.func25 rfl rfl; intro hIsFn; refine o_callp hIsFn (hct ..) ?_)) | ((first | (apply ops_split_t; rfl; rfl; exact nle rfl) | (apply ops_split_f; rfl; rfl; exact nle rfl) | (apply awp_cond; rfl)); all_goals (intro hc; have hp := hc; first | (simp at hp; done) | ((try simp at hp); first | (exfalso; omega) | skip))) | (apply awp_cond_any; rfl))
      all_goals try (exfalso; omega)
      · apply fin_int
        rfl
        have hfe := firstErr_at hlt hsofar (by assumption)
        rw [hE, hfe, if_pos (by assumption)]
      · refine ⟨l.length - (i + 1), _, by omega, red_ren (τ := ⟨[(1, .op 0 0 0), (32, .sl true (l.map treeRow)), (33, .v (.int .i64 (l.length : Int))), (34, .v (.int .i64 ((i + 1 : Nat) : Int)))], [(0, .own false 8 [c.row])], 1⟩) [(0, 0)] rfl ?gts ?ghs, i + 1, by omega, rfl, (mem_take_succ hlt hsofar (by assumption)), rfl⟩; (case gts => (repeat (first | exact tsok_nil | refine p_pure ?_ | refine p_op ?_ | refine p_os ?_ | refine p_eq ?_ ?_)); all_goals skip); (case ghs => (repeat (first | exact hsok_nil | refine q_id ?_ | refine q_idx ?_ ?_)); all_goals skip)
    obtain rfl : i = l.length := by omega
    have hz : firstErr treeErr l = 0 := firstErr_zero.2 (fun s hs => hsofar s (by rw [List.take_length]; exact hs))
    rw [hz, if_neg (by decide)] at hE
    clear hsofar hEl
    subst hE
    repeat' (first | refine walk ?_ | (first | (apply to_call Tryz.func26 rfl rfl; intro hIsFn; refine o_callf hIsFn (h5 ..) ?_; skip) | (apply to_call Tryz.func26 rfl rfl; intro hIsFn; refine o_callf hIsFn (h6 ..) ?_; skip) | (apply to_call Tryz.func24 rfl rfl; intro hIsFn; refine o_callf hIsFn (h4 ..) ?_; skip) | (refine o_beq ?_)) | ((first | (apply ops_split_t; rfl; rfl; exact nle rfl) | (apply ops_split_f; rfl; rfl; exact nle rfl) | (apply awp_cond; rfl)); all_goals (intro hc; have hp := hc; first | (simp at hp; done) | ((try simp at hp); first | (exfalso; omega) | skip))) | (apply awp_cond_any; rfl))
    all_goals try (exfalso; omega)
    all_goals (apply fin_int; rfl; rw [hT]; clear hT h4 h5 h6 hb hE hl2 hn0 hml hz)
    all_goals ((repeat' split) <;> first | rfl | (exfalso; omega) | (exfalso; simp_all; done) | (exfalso; simp_all; omega))
end Go.Proofs.YtaoffekhpjgmdaaGreatDoor

/- Clients in the abstract layer, 2: New, cloned, Edit, Fetch; the reference's EditOf. -/
set_option linter.unusedSimpArgs false
set_option linter.unnecessarySimpa false
set_option linter.unusedVariables false
set_option maxHeartbeats 1000000
namespace Go.Proofs.YtaoffekhpjgmdaaGreatDoor
open Go.Ab Go.RowKit
set_option maxRecDepth 10000
attribute [local irreducible] Awp Ops OpsX Wanted Red ExOk Go.Ab.Fin ACall Rz RzL RzRows Enters ResOk RenV RenVL ArgV ArgVL

theorem newC_big {who folder : Str} (hw : who.length ≤ 140737488355328) (hf : folder.length ≤ 140737488355328) : CliBig (newC who folder) :=
  ⟨hw, hf, ⟨fun _ h => (by cases h), (by simp [newC])⟩, ⟨fun _ h => (by cases h), (by simp [newC])⟩, (by simp [newC]), ⟨fun _ h => (by cases h), (by simp [newC])⟩⟩
theorem a_newC (who folder : Str) (hw : who.length ≤ 140737488355328) (hf : folder.length ≤ 140737488355328) : AFn C.P 7 [.v (str who), .v (str folder)] (resC (orNo (cliErr (newC who folder)) (newC who folder))) := by
  have h1 := a_ccheck _ (newC_big hw hf)
  unfold orNo
  generalize cliErr (newC who folder) = E at *
  by_cases hz : E = 0
  · subst hz
    rw [if_pos rfl]
    refine acall_intro Tryz.func7 rfl _ Tryz.ntmps7 (Nat.le_of_ble_eq_true rfl) _ Tryz.results7 0 rfl rfl ?_
    repeat' (first | refine walk ?_ | (first | (apply to_call Tryz.func11 rfl rfl; intro hIsFn; refine o_callp hIsFn (h1 ..) ?_)) | ((first | (apply awp_cond; rfl)); all_goals (intro hc; have hp := hc; first | (simp at hp; done) | ((try simp at hp); first | (exfalso; omega) | skip))) | (apply awp_cond_any; rfl))
    all_goals try (exfalso; omega)
    all_goals ((refine f_pure (rs := [.cell 4 25, .tmp 5]) ?_; (repeat' (first | exact rzl_nil | apply rzl_cons | exact rz_pure rfl | exact rz_ex | exact z_os | apply rz_agg | apply rz_tup | apply rz_clo | apply rz_int | apply rz_bool | apply rz_str | refine z_eq ?_ | apply rz_sl)); all_goals trace_state))
  · rw [if_neg hz]
    refine acall_intro Tryz.func7 rfl _ Tryz.ntmps7 (Nat.le_of_ble_eq_true rfl) _ Tryz.results7 0 rfl rfl ?_
    repeat' (first | refine walk ?_ | (first | (apply to_call Tryz.func11 rfl rfl; intro hIsFn; refine o_callp hIsFn (h1 ..) ?_)) | ((first | (apply awp_cond; rfl)); all_goals (intro hc; have hp := hc; first | (simp at hp; done) | ((try simp at hp); first | (exfalso; omega) | skip))) | (apply awp_cond_any; rfl))
    all_goals try (exfalso; omega)
    all_goals ((refine f_pure (rs := [.cell 4 25, .tmp 5]) ?_; (repeat' (first | exact rzl_nil | apply rzl_cons | exact rz_pure rfl | exact rz_ex | exact z_os | apply rz_agg | apply rz_tup | apply rz_clo | apply rz_int | apply rz_bool | apply rz_str | refine z_eq ?_ | apply rz_sl)); all_goals trace_state))
theorem a_clonedC (c : Cli) (h1 : c.base.length ≤ 1000000) (h2 : c.mine.length ≤ 1000000) (h3 : c.asked.length ≤ 1000000) : AFn C.P 27 [.agg c.row] (.agg c.row) := by
  have g1 := a_cloneEF c.base h1
  have g2 := a_cloneEF c.mine h2
  have g3 := a_cloneCF c.asked h3
  refine acall_intro Tryz.func27 rfl _ Tryz.ntmps27 (Nat.le_of_ble_eq_true rfl) _ Tryz.results27 0 rfl rfl ?_
  repeat' (first | refine walk ?_ | (first | (apply to_call Tryz.func47 rfl rfl; intro hIsFn; refine o_callp hIsFn (g1 ..) ?_) | (apply to_call Tryz.func47 rfl rfl; intro hIsFn; refine o_callp hIsFn (g2 ..) ?_) | (apply to_call Tryz.func30 rfl rfl; intro hIsFn; refine o_callp hIsFn (g3 ..) ?_)) | ((first | (apply awp_cond; rfl)); all_goals (intro hc; have hp := hc; first | (simp at hp; done) | ((try simp at hp); first | (exfalso; omega) | skip))) | (apply awp_cond_any; rfl))
  all_goals try (exfalso; omega)
  all_goals ((refine f_pure (rs := [.cell 2 25]) ?_; (repeat' (first | exact rzl_nil | apply rzl_cons | exact rz_pure rfl | exact rz_ex | exact z_os | apply rz_agg | apply rz_tup | apply rz_clo | apply rz_int | apply rz_bool | apply rz_str | refine z_eq ?_ | apply rz_sl)); all_goals trace_state))
theorem a_fetch (c : Cli) (hb : CliBig c) : AFn C.P 16 [.agg c.row] (.tup [.agg (fetchR c).1.row, .v (.int .i64 (fetchR c).2)]) := by
  have h1 := a_ccheck c hb
  unfold fetchR
  generalize cliErr c = E at *
  by_cases hz : E = 0
  · subst hz
    rw [if_pos rfl]
    refine acall_intro Tryz.func16 rfl _ Tryz.ntmps16 (Nat.le_of_ble_eq_true rfl) _ Tryz.results16 0 rfl rfl ?_
    repeat' (first | refine walk ?_ | (first | (apply to_call Tryz.func11 rfl rfl; intro hIsFn; refine o_callp hIsFn (h1 ..) ?_)) | ((first | (apply awp_cond; rfl)); all_goals (intro hc; have hp := hc; first | (simp at hp; done) | ((try simp at hp); first | (exfalso; omega) | skip))) | (apply awp_cond_any; rfl))
    all_goals try (exfalso; omega)
    all_goals ((refine f_pure (rs := [.cell 2 35, .tmp 3]) ?_; (repeat' (first | exact rzl_nil | apply rzl_cons | exact rz_pure rfl | exact rz_ex | exact z_os | apply rz_agg | apply rz_tup | apply rz_clo | apply rz_int | apply rz_bool | apply rz_str | refine z_eq ?_ | apply rz_sl)); all_goals trace_state))
  · rw [if_neg hz]
    refine acall_intro Tryz.func16 rfl _ Tryz.ntmps16 (Nat.le_of_ble_eq_true rfl) _ Tryz.results16 0 rfl rfl ?_
    repeat' (first | refine walk ?_ | (first | (apply to_call Tryz.func11 rfl rfl; intro hIsFn; refine o_callp hIsFn (h1 ..) ?_)) | ((first | (apply awp_cond; rfl)); all_goals (intro hc; have hp := hc; first | (simp at hp; done) | ((try simp at hp); first | (exfalso; omega) | skip))) | (apply awp_cond_any; rfl))
    all_goals try (exfalso; omega)
    all_goals ((refine f_pure (rs := [.cell 2 35, .tmp 3]) ?_; (repeat' (first | exact rzl_nil | apply rzl_cons | exact rz_pure rfl | exact rz_ex | exact z_os | apply rz_agg | apply rz_tup | apply rz_clo | apply rz_int | apply rz_bool | apply rz_str | refine z_eq ?_ | apply rz_sl)); all_goals trace_state))
theorem a_edit (c : Cli) (x : Chg) (hb : CliBig c) (hx : x.small) : AFn C.P 15 [.agg c.row, .agg x.row] (resC (editR c x)) := by
  have h1 := a_ccheck c hb
  have h2 := a_apply c.mine x 1 hb.mine hx
  have hE : editE c x = if ¬ x.base = -1 then 3 else applyE c.mine x 1 := rfl
  unfold editR
  by_cases hz : cliErr c = 0
  · rw [if_neg (by simp [hz])]
    have hR := cright_iff.1 hz
    have h3 := a_clonedC c (by have := (right_iff.1 hR.base).len; omega) (by have := (right_iff.1 hR.mine).len; omega) (by have := hR.few; omega)
    rw [hz] at h1
    generalize editE c x = G at *
    generalize applyL c.mine x 1 = L at *
    generalize applyE c.mine x 1 = A at *
    by_cases hb1 : x.base = -1
    · rw [if_neg (by simp [hb1])] at hE
      subst hE
      by_cases hA : G = 0
      · subst hA
        refine acall_intro Tryz.func15 rfl _ Tryz.ntmps15 (Nat.le_of_ble_eq_true rfl) _ Tryz.results15 0 rfl rfl ?_
        repeat' (first | refine walk ?_ | (first | (apply to_call Tryz.func11 rfl rfl; intro hIsFn; refine o_callp hIsFn (h1 ..) ?_) | (apply to_call Tryz.func34 rfl rfl; intro hIsFn; refine o_callp hIsFn (h2 ..) ?_) | (apply to_call Tryz.func27 rfl rfl; intro hIsFn; refine o_callp hIsFn (h3 ..) ?_)) | ((first | (apply awp_cond; rfl)); all_goals (intro hc; have hp := hc; first | (simp at hp; done) | ((try simp at hp); first | (exfalso; omega) | skip))) | (apply awp_cond_any; rfl))
        all_goals try (exfalso; omega)
        all_goals ((refine f_pure (rs := [.cell 4 25, .tmp 5]) ?_; (repeat' (first | exact rzl_nil | apply rzl_cons | exact rz_pure rfl | exact rz_ex | exact z_os | apply rz_agg | apply rz_tup | apply rz_clo | apply rz_int | apply rz_bool | apply rz_str | refine z_eq ?_ | apply rz_sl)); all_goals trace_state))
      · rw [show orNo G { c with mine := L } = (noCli, G) from if_neg hA]
        refine acall_intro Tryz.func15 rfl _ Tryz.ntmps15 (Nat.le_of_ble_eq_true rfl) _ Tryz.results15 0 rfl rfl ?_
        repeat' (first | refine walk ?_ | (first | (apply to_call Tryz.func11 rfl rfl; intro hIsFn; refine o_callp hIsFn (h1 ..) ?_) | (apply to_call Tryz.func34 rfl rfl; intro hIsFn; refine o_callp hIsFn (h2 ..) ?_) | (apply to_call Tryz.func27 rfl rfl; intro hIsFn; refine o_callp hIsFn (h3 ..) ?_)) | ((first | (apply awp_cond; rfl)); all_goals (intro hc; have hp := hc; first | (simp at hp; done) | ((try simp at hp); first | (exfalso; omega) | skip))) | (apply awp_cond_any; rfl))
        all_goals try (exfalso; omega)
        all_goals ((refine f_pure (rs := [.cell 4 25, .tmp 5]) ?_; (repeat' (first | exact rzl_nil | apply rzl_cons | exact rz_pure rfl | exact rz_ex | exact z_os | apply rz_agg | apply rz_tup | apply rz_clo | apply rz_int | apply rz_bool | apply rz_str | refine z_eq ?_ | apply rz_sl)); all_goals trace_state))
    · rw [if_pos hb1] at hE
      subst hE
      rw [show orNo 3 { c with mine := L } = (noCli, 3) from rfl]
      refine acall_intro Tryz.func15 rfl _ Tryz.ntmps15 (Nat.le_of_ble_eq_true rfl) _ Tryz.results15 0 rfl rfl ?_
      repeat' (first | refine walk ?_ | (first | (apply to_call Tryz.func11 rfl rfl; intro hIsFn; refine o_callp hIsFn (h1 ..) ?_)) | ((first | (apply awp_cond; rfl)); all_goals (intro hc; have hp := hc; first | (simp at hp; done) | ((try simp at hp); first | (exfalso; omega) | skip))) | (apply awp_cond_any; rfl))
      all_goals try (exfalso; omega)
      all_goals ((refine f_pure (rs := [.cell 4 25, .tmp 5]) ?_; (repeat' (first | exact rzl_nil | apply rzl_cons | exact rz_pure rfl | exact rz_ex | exact z_os | apply rz_agg | apply rz_tup | apply rz_clo | apply rz_int | apply rz_bool | apply rz_str | refine z_eq ?_ | apply rz_sl)); all_goals trace_state))
  · rw [if_pos hz]
    generalize cliErr c = E at *
    refine acall_intro Tryz.func15 rfl _ Tryz.ntmps15 (Nat.le_of_ble_eq_true rfl) _ Tryz.results15 0 rfl rfl ?_
    repeat' (first | refine walk ?_ | (first | (apply to_call Tryz.func11 rfl rfl; intro hIsFn; refine o_callp hIsFn (h1 ..) ?_)) | ((first | (apply awp_cond; rfl)); all_goals (intro hc; have hp := hc; first | (simp at hp; done) | ((try simp at hp); first | (exfalso; omega) | skip))) | (apply awp_cond_any; rfl))
    all_goals try (exfalso; omega)
    all_goals ((refine f_pure (rs := [.cell 4 25, .tmp 5]) ?_; (repeat' (first | exact rzl_nil | apply rzl_cons | exact rz_pure rfl | exact rz_ex | exact z_os | apply rz_agg | apply rz_tup | apply rz_clo | apply rz_int | apply rz_bool | apply rz_str | refine z_eq ?_ | apply rz_sl)); all_goals trace_state))
end Go.Proofs.YtaoffekhpjgmdaaGreatDoor
