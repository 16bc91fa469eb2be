/- Clients in the abstract layer, 1: within, Check. -/
import Derived.Test.YtaoffekhpjgmdaaDoorClPl
import Derived.Test.YtaoffekhpjgmdaaDoorClo
set_option linter.unusedSimpArgs false
set_option linter.unnecessarySimpa false
set_option linter.unusedVariables false
set_option maxHeartbeats 1000000
namespace Go.Proofs.YtaoffekhpjgmdaaDoor
open Go.Ab Go.RowKit
set_option maxRecDepth 10000
attribute [local irreducible] Awp Ops OpsX Wanted Red ExOk Go.Ab.Fin ACall Rz RzL RzRows Enters ResOk RenV RenVL ArgV ArgVL

theorem a_within (n : Int) : AFn C.P 34 [.v (.int .i64 n), .v (.int .i64 0), .v (.int .i64 1000000)] (.v (.bool (in1M n))) := by
  refine acall_intro Tryd.func34 rfl _ Tryd.ntmps34 (Nat.le_of_ble_eq_true rfl) _ Tryd.results34 0 rfl rfl ?_
  repeat' (first | refine walk ?_ | fail | ((first | (apply ops_split_t; rfl; rfl; exact nle rfl) | (apply ops_split_f; rfl; rfl; exact nle rfl) | (apply awp_cond; rfl)); all_goals (intro hc; have hp := hc; first | (simp at hp; done) | ((try simp at hp); first | (exfalso; omega) | skip))) | (apply awp_cond_any; rfl))
  all_goals (apply fin_bool; rfl; (simp_all [in1M]; try omega))
set_option maxHeartbeats 4000000 in
theorem a_ccheck (c : Cli) (hb : CliBig c) : AFn C.P 15 [.agg c.row] (.v (.int .i64 (cliErr c))) := by
  have h1 := g_isName c.who (by have := hb.who; omega)
  have h2 := g_isName c.folder (by have := hb.folder; omega)
  have h3 := a_isKey c.who
  have h4 := a_isKey c.key
  have h5 := a_within c.cursor
  have h6 := a_within c.keys
  have hl := hb.asked.len
  have hE : cliErr c = if cliHead c then 1 else if ¬ treeErr c.base = 0 then treeErr c.base else if ¬ treeErr c.mine = 0 then treeErr c.mine else cliTail c := rfl
  have hH : cliHead c ↔ (isName c.who = false ∨ isName c.folder = false ∨ isKey c.who = false ∨ 10 < c.who.length) := Iff.rfl
  have hT : cliTail c = if in1M c.cursor = false ∨ in1M c.keys = false then 3 else if ¬ c.key = [] ∧ isKey c.key = false then 1 else if ¬ (c.key = [] ↔ c.asked = []) then 4 else if 20 < c.asked.length then 2 else 0 := rfl
  have hn0 : c.asked = [] ↔ c.asked.length = 0 := List.length_eq_zero_iff.symm
  have hml : (c.asked.map Chg.row).length = c.asked.length := List.length_map ..
  generalize isName c.who = n1 at *
  generalize isName c.folder = n2 at *
  generalize isKey c.who = n3 at *
  generalize isKey c.key = n4 at *
  generalize in1M c.cursor = n5 at *
  generalize in1M c.keys = n6 at *
  generalize cliTail c = T at *
  generalize cliErr c = E at *
  by_cases hh : cliHead c
  · rw [if_pos hh] at hE
    rw [hE]
    rw [hH] at hh
    refine acall_intro Tryd.func15 rfl _ Tryd.ntmps15 (Nat.le_of_ble_eq_true rfl) _ Tryd.results15 0 rfl rfl ?_
    cases n1 <;> cases n2 <;> cases n3
    all_goals (repeat' (first | refine walk ?_ | (first | (apply to_call Tryd.func31 rfl rfl; intro hIsFn; refine o_callf hIsFn (h1 ..) ?_; skip) | (apply to_call Tryd.func31 rfl rfl; intro hIsFn; refine o_callf hIsFn (h2 ..) ?_; skip) | (apply to_call Tryd.func32 rfl rfl; intro hIsFn; refine o_callf hIsFn (h3 ..) ?_; skip)) | ((first | (apply ops_split_t; rfl; rfl; exact nle rfl) | (apply ops_split_f; rfl; rfl; exact nle rfl) | (apply awp_cond; rfl)); all_goals (intro hc; have hp := hc; first | (simp at hp; done) | ((try simp at hp); first | (exfalso; omega) | skip))) | (apply awp_cond_any; rfl)))
    all_goals try (exfalso; first | omega | (simp_all; omega))
    all_goals (apply fin_int; rfl; rfl)
  · rw [if_neg hh] at hE
    rw [hH] at hh
    simp only [not_or, Bool.not_eq_false, Nat.not_lt] at hh
    obtain ⟨rfl, rfl, rfl, hw10⟩ := hh
    have hEl : ∀ x, x ∈ ([c.base, c.mine] : List (List Ent)) → EBig x := by
      intro x hx
      simp only [List.mem_cons, List.not_mem_nil, or_false] at hx
      rcases hx with rfl | rfl
      · exact hb.base
      · exact hb.mine
    have hE : E = if ¬ firstErr treeErr [c.base, c.mine] = 0 then firstErr treeErr [c.base, c.mine] else T := by
      rw [hE]
      simp only [firstErr]
      by_cases hz1 : treeErr c.base = 0 <;> by_cases hz2 : treeErr c.mine = 0 <;> simp [hz1, hz2]
    clear hH
    refine acall_intro Tryd.func15 rfl _ Tryd.ntmps15 (Nat.le_of_ble_eq_true rfl) _ Tryd.results15 0 rfl rfl ?_
    repeat' (first | refine walk ?_ | (first | (apply to_call Tryd.func31 rfl rfl; intro hIsFn; refine o_callf hIsFn (h1 ..) ?_; skip) | (apply to_call Tryd.func31 rfl rfl; intro hIsFn; refine o_callf hIsFn (h2 ..) ?_; skip) | (apply to_call Tryd.func32 rfl rfl; intro hIsFn; refine o_callf hIsFn (h3 ..) ?_; skip) | (refine o_fzl ?_)) | ((first | (apply ops_split_t; rfl; rfl; exact nle rfl) | (apply ops_split_f; rfl; rfl; exact nle rfl) | (apply awp_cond; rfl)); all_goals (intro hc; have hp := hc; first | (simp at hp; done) | ((try simp at hp); first | (exfalso; omega) | skip))) | (apply awp_cond_any; rfl))
    all_goals try (exfalso; first | omega | (simp_all; omega))
    (refine Awp.red (red_ren (τ := ⟨[(1, .op 0 0 0), (32, .sl true (([c.base, c.mine] : List (List Ent)).map treeRow)), (33, .v (.int .i64 ((([c.base, c.mine] : List (List Ent)).length : Nat) : Int))), (34, .v (.int .i64 ((0 : Nat) : Int)))], [(0, .own false 8 [c.row])], 1⟩) [(0, 0)] rfl ?gts ?ghs) ?gmain; (case gts => (repeat (first | exact tsok_nil | refine p_pure ?_ | refine p_op ?_ | refine p_os ?_ | refine p_eq ?_ ?_))); (case ghs => (repeat (first | exact hsok_nil | refine q_id ?_ | refine q_idx ?_ ?_))))
    clear h1 h2 h3
    have hl2 : ([c.base, c.mine] : List (List Ent)).length = 2 := rfl
    generalize ([c.base, c.mine] : List (List Ent)) = l at *
    refine awp_loop (fun n σ => ∃ i : Nat, i ≤ l.length ∧ n = l.length - i ∧ (∀ t, t ∈ l.take i → treeErr t = 0) ∧ σ = ⟨[(1, .op 0 0 0), (32, .sl true (l.map treeRow)), (33, .v (.int .i64 (l.length : Int))), (34, .v (.int .i64 (i : Int)))], [(0, .own false 8 [c.row])], 1⟩) l.length ⟨0, Nat.zero_le _, rfl, (by simp), rfl⟩ ?_
    rintro n σ ⟨i, hi, rfl, hsofar, rfl⟩
    by_cases hlt : i < l.length
    · have hr := getRow (f := treeRow) hlt
      have hct := a_tcheck l[i] (hEl _ (List.getElem_mem _))
      repeat' (first | refine walk ?_ | (first | (apply to_call Tryd.func33 rfl rfl; intro hIsFn; refine o_callp hIsFn (hct ..) ?_)) | ((first | (apply ops_split_t; rfl; rfl; exact nle rfl) | (apply ops_split_f; rfl; rfl; exact nle rfl) | (apply awp_cond; rfl)); all_goals (intro hc; have hp := hc; first | (simp at hp; done) | ((try simp at hp); first | (exfalso; omega) | skip))) | (apply awp_cond_any; rfl))
      all_goals try (exfalso; omega)
      · apply fin_int
        rfl
        have hfe := firstErr_at hlt hsofar (by assumption)
        rw [hE, hfe, if_pos (by assumption)]
      · refine ⟨l.length - (i + 1), _, by omega, red_ren (τ := ⟨[(1, .op 0 0 0), (32, .sl true (l.map treeRow)), (33, .v (.int .i64 (l.length : Int))), (34, .v (.int .i64 ((i + 1 : Nat) : Int)))], [(0, .own false 8 [c.row])], 1⟩) [(0, 0)] rfl ?gts ?ghs, i + 1, by omega, rfl, (mem_take_succ hlt hsofar (by assumption)), rfl⟩; (case gts => (repeat (first | exact tsok_nil | refine p_pure ?_ | refine p_op ?_ | refine p_os ?_ | refine p_eq ?_ ?_)); all_goals skip); (case ghs => (repeat (first | exact hsok_nil | refine q_id ?_ | refine q_idx ?_ ?_)); all_goals skip)
    obtain rfl : i = l.length := by omega
    have hz : firstErr treeErr l = 0 := firstErr_zero.2 (fun s hs => hsofar s (by rw [List.take_length]; exact hs))
    rw [hz, if_neg (by decide)] at hE
    clear hsofar hEl
    subst hE
    repeat' (first | refine walk ?_ | (first | (apply to_call Tryd.func34 rfl rfl; intro hIsFn; refine o_callf hIsFn (h5 ..) ?_; skip) | (apply to_call Tryd.func34 rfl rfl; intro hIsFn; refine o_callf hIsFn (h6 ..) ?_; skip) | (apply to_call Tryd.func32 rfl rfl; intro hIsFn; refine o_callf hIsFn (h4 ..) ?_; skip) | (refine o_beq ?_)) | ((first | (apply ops_split_t; rfl; rfl; exact nle rfl) | (apply ops_split_f; rfl; rfl; exact nle rfl) | (apply awp_cond; rfl)); all_goals (intro hc; have hp := hc; first | (simp at hp; done) | ((try simp at hp); first | (exfalso; omega) | skip))) | (apply awp_cond_any; rfl))
    all_goals try (exfalso; omega)
    all_goals (apply fin_int; rfl; rw [hT]; clear hT h4 h5 h6 hb hE hl2 hn0 hml hz)
    all_goals ((repeat' split) <;> first | rfl | (exfalso; omega) | (exfalso; simp_all; done) | (exfalso; simp_all; omega))
end Go.Proofs.YtaoffekhpjgmdaaDoor
