import Derived.Test.YtkkfilkmkdnboaaDoorMz32
import Derived.Test.YtkkfilkmkdnboaaDoorMz33
import Derived.Test.YtkkfilkmkdnboaaDoorMz29
/- Merges in the abstract layer, 12: Merge, Clean. -/
set_option linter.unusedSimpArgs false
set_option linter.unnecessarySimpa false
set_option linter.unusedVariables false
set_option maxHeartbeats 1000000
namespace Go.Proofs.YtkkfilkmkdnboaaDoor
open Go.Ab Go.RowKit
set_option maxRecDepth 10000
attribute [local irreducible] Awp Ops OpsX Wanted Red ExOk Go.Ab.Fin ACall Rz RzL RzRows Enters ResOk RenV RenVL ArgV ArgVL
def cpyAV (l : List Cpy) : AV := .sl false (l.map Cpy.row)
def mgAV (r : List Ent × List Cpy × Int) : AV := .tup [entAV r.1, cpyAV r.2.1, .v (.int .i64 r.2.2)]
theorem mergeA_e1 {b m t : List Ent} (h : ¬ treeErr b = 0) : mergeA b m t = ([], [], treeErr b) := by
  unfold mergeA
  rw [show firstErr treeErr [b, m, t] = treeErr b from by simp [firstErr, h], if_neg h]
theorem mergeA_e2 {b m t : List Ent} (hb : treeErr b = 0) (h : ¬ treeErr m = 0) : mergeA b m t = ([], [], treeErr m) := by
  unfold mergeA
  rw [show firstErr treeErr [b, m, t] = treeErr m from by simp [firstErr, h, hb], if_neg h]
theorem mergeA_e3 {b m t : List Ent} (hb : treeErr b = 0) (hm : treeErr m = 0) (h : ¬ treeErr t = 0) : mergeA b m t = ([], [], treeErr t) := by
  unfold mergeA
  rw [show firstErr treeErr [b, m, t] = treeErr t from by simp [firstErr, h, hb, hm], if_neg h]
theorem mergeA_ok {b m t : List Ent} (hb : treeErr b = 0) (hm : treeErr m = 0) (ht : treeErr t = 0) : mergeA b m t = mergeR b m t := by
  unfold mergeA
  rw [show firstErr treeErr [b, m, t] = 0 from by simp [firstErr, ht, hb, hm], if_pos rfl]
theorem sideM_len (t : List Ent) : (sideM t).length = t.length := by
  have := congrArg List.length (sideM_keys t)
  simpa using this
theorem entW_at {m t o : List Ent} (ho : MInv o) {e : Ent} (he : e ∈ o) : entW m t o e.path = verE m t e := by
  have hl : look o e.path = some e := look_mem ho.rise he
  have h1 : stT o e.path = thgOf e := by unfold stT; rw [hl]
  unfold entW
  rw [h1, thg_path (ho.ent e he)]
  unfold verE verOf verAt ver1
  rfl
theorem st_has {o : List Ent} (ho : MInv o) {e : Ent} (he : e ∈ o) : ¬ (stT o e.path).kind = 0 := by
  rw [st_zero, look_mem ho.rise he]; exact nofun
set_option maxHeartbeats 4000000 in
theorem a_merge (B M T : List Ent) (bB : EBig B) (bM : EBig M) (bT : EBig T) : AFn C.P 39 [entAV B, entAV M, entAV T] (mgAV (mergeA B M T)) := by
  have cB := a_tcheck B bB
  have cM := a_tcheck M bM
  have cT := a_tcheck T bT
  refine acall_intro Tryd.func39 rfl _ Tryd.ntmps39 (Nat.le_of_ble_eq_true rfl) _ Tryd.results39 0 rfl rfl ?_
  repeat' (first | refine walk ?_ | (first | (refine o_fzl ?_)) | ((first | (apply ops_split_t; rfl; rfl; exact nle rfl) | (apply ops_split_f; rfl; rfl; exact nle rfl) | (apply awp_cond; rfl)); all_goals (intro hc; have hp := hc; first | (simp at hp; done) | ((try simp at hp); first | (exfalso; omega) | skip))) | (apply awp_cond_any; rfl))
  all_goals try (exfalso; omega)
  (refine Awp.red (red_pure (ts := [(0, entAV B), (1, entAV M), (2, entAV T), (19, .sl true [[entAV B], [entAV M], [entAV T]]), (20, .v (.int .i64 3)), (21, .v (.int .i64 ((0 : Nat) : Int)))]) ?_) ?_; ((repeat (first | exact tsok_nil | refine p_pure ?_ | refine p_eq ?_ ?_))))
  refine awp_loop (fun n σ => ∃ i : Nat, i ≤ 3 ∧ n = 3 - i ∧ ((1 ≤ i → treeErr B = 0) ∧ (2 ≤ i → treeErr M = 0) ∧ (3 ≤ i → treeErr T = 0)) ∧ σ = ⟨[(0, entAV B), (1, entAV M), (2, entAV T), (19, .sl true [[entAV B], [entAV M], [entAV T]]), (20, .v (.int .i64 3)), (21, .v (.int .i64 (i : Int)))], [], C.nh⟩) 3 ⟨0, by omega, rfl, ⟨by omega, by omega, by omega⟩, rfl⟩ ?_
  rintro n σ ⟨i, hi, rfl, ⟨e1, e2, e3⟩, rfl⟩
  rcases show i = 0 ∨ i = 1 ∨ i = 2 ∨ i = 3 from by omega with rfl | rfl | rfl | rfl
  · have hrow : ([[entAV B], [entAV M], [entAV T]] : List (List AV))[0]? = some [entAV B] := rfl
    by_cases h0 : treeErr B = 0
    · rw [h0] at cB
      repeat' (first | refine walk ?_ | (first | (apply to_call Tryd.func53 rfl rfl; intro hIsFn; refine o_callf hIsFn (cB ..) ?_; skip)) | ((first | (apply ops_split_t; rfl; rfl; exact nle rfl) | (apply ops_split_f; rfl; rfl; exact nle rfl) | (apply awp_cond; rfl)); all_goals (intro hc; have hp := hc; first | (simp at hp; done) | ((try simp at hp); first | (exfalso; omega) | skip))) | (apply awp_cond_any; rfl))
      all_goals try (exfalso; first | omega | contradiction)
      refine ⟨3 - 1, _, by omega, red_pure (ts := [(0, entAV B), (1, entAV M), (2, entAV T), (19, .sl true [[entAV B], [entAV M], [entAV T]]), (20, .v (.int .i64 3)), (21, .v (.int .i64 ((1 : Nat) : Int)))]) ?_, 1, by omega, rfl, ⟨fun _ => h0, by omega, by omega⟩, rfl⟩; ((repeat (first | exact tsok_nil | refine p_pure ?_ | refine p_eq ?_ ?_)))
    · rw [mergeA_e1 h0]
      generalize treeErr B = E at *
      repeat' (first | refine walk ?_ | (first | (apply to_call Tryd.func53 rfl rfl; intro hIsFn; refine o_callf hIsFn (cB ..) ?_; skip)) | ((first | (apply ops_split_t; rfl; rfl; exact nle rfl) | (apply ops_split_f; rfl; rfl; exact nle rfl) | (apply awp_cond; rfl)); all_goals (intro hc; have hp := hc; first | (simp at hp; done) | ((try simp at hp); first | (exfalso; omega) | skip))) | (apply awp_cond_any; rfl))
      all_goals try (exfalso; first | omega | contradiction)
      unfold mgAV cpyAV
      (refine f_pure (rs := [.tmp 6, .tmp 7, .tmp 8]) ?_; (repeat' (first | exact rzl_nil | apply rzl_cons | exact rz_pure rfl | exact rz_ex | exact z_os | apply rz_agg | apply rz_tup | apply rz_clo | apply rz_int | apply rz_bool | apply rz_str | refine z_eq ?_ | apply rz_sl)); all_goals trace_state)
  · have hrow : ([[entAV B], [entAV M], [entAV T]] : List (List AV))[1]? = some [entAV M] := rfl
    by_cases h0 : treeErr M = 0
    · rw [h0] at cM
      repeat' (first | refine walk ?_ | (first | (apply to_call Tryd.func53 rfl rfl; intro hIsFn; refine o_callf hIsFn (cM ..) ?_; skip)) | ((first | (apply ops_split_t; rfl; rfl; exact nle rfl) | (apply ops_split_f; rfl; rfl; exact nle rfl) | (apply awp_cond; rfl)); all_goals (intro hc; have hp := hc; first | (simp at hp; done) | ((try simp at hp); first | (exfalso; omega) | skip))) | (apply awp_cond_any; rfl))
      all_goals try (exfalso; first | omega | contradiction)
      refine ⟨3 - 2, _, by omega, red_pure (ts := [(0, entAV B), (1, entAV M), (2, entAV T), (19, .sl true [[entAV B], [entAV M], [entAV T]]), (20, .v (.int .i64 3)), (21, .v (.int .i64 ((2 : Nat) : Int)))]) ?_, 2, by omega, rfl, ⟨fun _ => e1 (by omega), fun _ => h0, by omega⟩, rfl⟩; ((repeat (first | exact tsok_nil | refine p_pure ?_ | refine p_eq ?_ ?_)))
    · rw [mergeA_e2 (e1 (by omega)) h0]
      generalize treeErr M = E at *
      repeat' (first | refine walk ?_ | (first | (apply to_call Tryd.func53 rfl rfl; intro hIsFn; refine o_callf hIsFn (cM ..) ?_; skip)) | ((first | (apply ops_split_t; rfl; rfl; exact nle rfl) | (apply ops_split_f; rfl; rfl; exact nle rfl) | (apply awp_cond; rfl)); all_goals (intro hc; have hp := hc; first | (simp at hp; done) | ((try simp at hp); first | (exfalso; omega) | skip))) | (apply awp_cond_any; rfl))
      all_goals try (exfalso; first | omega | contradiction)
      unfold mgAV cpyAV
      (refine f_pure (rs := [.tmp 6, .tmp 7, .tmp 8]) ?_; (repeat' (first | exact rzl_nil | apply rzl_cons | exact rz_pure rfl | exact rz_ex | exact z_os | apply rz_agg | apply rz_tup | apply rz_clo | apply rz_int | apply rz_bool | apply rz_str | refine z_eq ?_ | apply rz_sl)); all_goals trace_state)
  · have hrow : ([[entAV B], [entAV M], [entAV T]] : List (List AV))[2]? = some [entAV T] := rfl
    by_cases h0 : treeErr T = 0
    · rw [h0] at cT
      repeat' (first | refine walk ?_ | (first | (apply to_call Tryd.func53 rfl rfl; intro hIsFn; refine o_callf hIsFn (cT ..) ?_; skip)) | ((first | (apply ops_split_t; rfl; rfl; exact nle rfl) | (apply ops_split_f; rfl; rfl; exact nle rfl) | (apply awp_cond; rfl)); all_goals (intro hc; have hp := hc; first | (simp at hp; done) | ((try simp at hp); first | (exfalso; omega) | skip))) | (apply awp_cond_any; rfl))
      all_goals try (exfalso; first | omega | contradiction)
      refine ⟨3 - 3, _, by omega, red_pure (ts := [(0, entAV B), (1, entAV M), (2, entAV T), (19, .sl true [[entAV B], [entAV M], [entAV T]]), (20, .v (.int .i64 3)), (21, .v (.int .i64 ((3 : Nat) : Int)))]) ?_, 3, by omega, rfl, ⟨fun _ => e1 (by omega), fun _ => e2 (by omega), fun _ => h0⟩, rfl⟩; ((repeat (first | exact tsok_nil | refine p_pure ?_ | refine p_eq ?_ ?_)))
    · rw [mergeA_e3 (e1 (by omega)) (e2 (by omega)) h0]
      generalize treeErr T = E at *
      repeat' (first | refine walk ?_ | (first | (apply to_call Tryd.func53 rfl rfl; intro hIsFn; refine o_callf hIsFn (cT ..) ?_; skip)) | ((first | (apply ops_split_t; rfl; rfl; exact nle rfl) | (apply ops_split_f; rfl; rfl; exact nle rfl) | (apply awp_cond; rfl)); all_goals (intro hc; have hp := hc; first | (simp at hp; done) | ((try simp at hp); first | (exfalso; omega) | skip))) | (apply awp_cond_any; rfl))
      all_goals try (exfalso; first | omega | contradiction)
      unfold mgAV cpyAV
      (refine f_pure (rs := [.tmp 6, .tmp 7, .tmp 8]) ?_; (repeat' (first | exact rzl_nil | apply rzl_cons | exact rz_pure rfl | exact rz_ex | exact z_os | apply rz_agg | apply rz_tup | apply rz_clo | apply rz_int | apply rz_bool | apply rz_str | refine z_eq ?_ | apply rz_sl)); all_goals trace_state)
  have h1 := e1 (by omega)
  have h2 := e2 (by omega)
  have h3 := e3 (by omega)
  rw [mergeA_ok h1 h2 h3]
  clear e1 e2 e3 cB cM cT
  have rB := right_iff.1 h1
  have rM := right_iff.1 h2
  have rT := right_iff.1 h3
  have lB := rB.len
  have lM := rM.len
  have lT := rT.len
  have s1 := a_sideOf B rB.rise (by omega)
  have s2 := a_sideOf M rM.rise (by omega)
  have s3 := a_sideOf T rT.rise (by omega)
  have hm := m_merge B M T rB rM rT
  repeat' (first | refine walk ?_ | (first | fail) | ((first | (apply ops_split_t; rfl; rfl; exact nle rfl) | (apply ops_split_f; rfl; rfl; exact nle rfl) | (apply awp_cond; rfl)); all_goals (intro hc; have hp := hc; first | (simp at hp; done) | ((try simp at hp); first | (exfalso; omega) | skip))) | (apply awp_cond_any; rfl))
  all_goals try (exfalso; first | omega | contradiction)
  apply to_call Tryd.func70 rfl rfl
  intro hIsFn
  refine o_callm [] [0] [(0, .mp (sideM B))] 1 (.mp 0) hIsFn (s1) (by ((repeat' (first | exact argvl_nil | apply argvl_cons | exact argv_pure rfl | exact argv_ex | (apply argv_ren; apply ren_op; exact .inr (of_decide_eq_true rfl)) | (apply argv_ren; apply ren_mp; exact .inr (of_decide_eq_true rfl)) | (apply argv_ren; apply ren_os; exact .inr (of_decide_eq_true rfl)) | apply argv_agg | apply argv_clo))) <;> fail) (by ((repeat' (first | exact give_nil | exact back_nil | refine give_cons _ ?_ ?_ | refine back_cons ?_ ?_ | exact renhb_dead | exact renhb_mp (sideM_pure _) | exact renhb_mp (jk_pure _) | exact renhb_mp (goesM_pure _) | exact renhb_map (fun _ => rfl) | refine renhb_row ?_ | exact renl_nil | apply renl_cons | exact ren_pure rfl | (apply ren_mp; exact .inr (of_decide_eq_true rfl)) | (apply ren_os; exact .inr (of_decide_eq_true rfl)) | (apply ren_op; exact .inr (of_decide_eq_true rfl)) | fail))) <;> fail) (by ((repeat' (first | exact give_nil | exact back_nil | refine give_cons _ ?_ ?_ | refine back_cons ?_ ?_ | exact renhb_dead | exact renhb_mp (sideM_pure _) | exact renhb_mp (jk_pure _) | exact renhb_mp (goesM_pure _) | exact renhb_map (fun _ => rfl) | refine renhb_row ?_ | exact renl_nil | apply renl_cons | exact ren_pure rfl | (apply ren_mp; exact .inr (of_decide_eq_true rfl)) | (apply ren_os; exact .inr (of_decide_eq_true rfl)) | (apply ren_op; exact .inr (of_decide_eq_true rfl)) | fail))) <;> fail) ?_
  repeat' (first | refine walk ?_ | (first | fail) | ((first | (apply ops_split_t; rfl; rfl; exact nle rfl) | (apply ops_split_f; rfl; rfl; exact nle rfl) | (apply awp_cond; rfl)); all_goals (intro hc; have hp := hc; first | (simp at hp; done) | ((try simp at hp); first | (exfalso; omega) | skip))) | (apply awp_cond_any; rfl))
  apply to_call Tryd.func70 rfl rfl
  intro hIsFn
  refine o_callm [] [1] [(1, .mp (sideM M))] 2 (.mp 1) hIsFn (s2) (by ((repeat' (first | exact argvl_nil | apply argvl_cons | exact argv_pure rfl | exact argv_ex | (apply argv_ren; apply ren_op; exact .inr (of_decide_eq_true rfl)) | (apply argv_ren; apply ren_mp; exact .inr (of_decide_eq_true rfl)) | (apply argv_ren; apply ren_os; exact .inr (of_decide_eq_true rfl)) | apply argv_agg | apply argv_clo))) <;> fail) (by ((repeat' (first | exact give_nil | exact back_nil | refine give_cons _ ?_ ?_ | refine back_cons ?_ ?_ | exact renhb_dead | exact renhb_mp (sideM_pure _) | exact renhb_mp (jk_pure _) | exact renhb_mp (goesM_pure _) | exact renhb_map (fun _ => rfl) | refine renhb_row ?_ | exact renl_nil | apply renl_cons | exact ren_pure rfl | (apply ren_mp; exact .inr (of_decide_eq_true rfl)) | (apply ren_os; exact .inr (of_decide_eq_true rfl)) | (apply ren_op; exact .inr (of_decide_eq_true rfl)) | fail))) <;> fail) (by ((repeat' (first | exact give_nil | exact back_nil | refine give_cons _ ?_ ?_ | refine back_cons ?_ ?_ | exact renhb_dead | exact renhb_mp (sideM_pure _) | exact renhb_mp (jk_pure _) | exact renhb_mp (goesM_pure _) | exact renhb_map (fun _ => rfl) | refine renhb_row ?_ | exact renl_nil | apply renl_cons | exact ren_pure rfl | (apply ren_mp; exact .inr (of_decide_eq_true rfl)) | (apply ren_os; exact .inr (of_decide_eq_true rfl)) | (apply ren_op; exact .inr (of_decide_eq_true rfl)) | fail))) <;> fail) ?_
  repeat' (first | refine walk ?_ | (first | fail) | ((first | (apply ops_split_t; rfl; rfl; exact nle rfl) | (apply ops_split_f; rfl; rfl; exact nle rfl) | (apply awp_cond; rfl)); all_goals (intro hc; have hp := hc; first | (simp at hp; done) | ((try simp at hp); first | (exfalso; omega) | skip))) | (apply awp_cond_any; rfl))
  apply to_call Tryd.func70 rfl rfl
  intro hIsFn
  refine o_callm [] [2] [(2, .mp (sideM T))] 3 (.mp 2) hIsFn (s3) (by ((repeat' (first | exact argvl_nil | apply argvl_cons | exact argv_pure rfl | exact argv_ex | (apply argv_ren; apply ren_op; exact .inr (of_decide_eq_true rfl)) | (apply argv_ren; apply ren_mp; exact .inr (of_decide_eq_true rfl)) | (apply argv_ren; apply ren_os; exact .inr (of_decide_eq_true rfl)) | apply argv_agg | apply argv_clo))) <;> fail) (by ((repeat' (first | exact give_nil | exact back_nil | refine give_cons _ ?_ ?_ | refine back_cons ?_ ?_ | exact renhb_dead | exact renhb_mp (sideM_pure _) | exact renhb_mp (jk_pure _) | exact renhb_mp (goesM_pure _) | exact renhb_map (fun _ => rfl) | refine renhb_row ?_ | exact renl_nil | apply renl_cons | exact ren_pure rfl | (apply ren_mp; exact .inr (of_decide_eq_true rfl)) | (apply ren_os; exact .inr (of_decide_eq_true rfl)) | (apply ren_op; exact .inr (of_decide_eq_true rfl)) | fail))) <;> fail) (by ((repeat' (first | exact give_nil | exact back_nil | refine give_cons _ ?_ ?_ | refine back_cons ?_ ?_ | exact renhb_dead | exact renhb_mp (sideM_pure _) | exact renhb_mp (jk_pure _) | exact renhb_mp (goesM_pure _) | exact renhb_map (fun _ => rfl) | refine renhb_row ?_ | exact renl_nil | apply renl_cons | exact ren_pure rfl | (apply ren_mp; exact .inr (of_decide_eq_true rfl)) | (apply ren_os; exact .inr (of_decide_eq_true rfl)) | (apply ren_op; exact .inr (of_decide_eq_true rfl)) | fail))) <;> fail) ?_
  repeat' (first | refine walk ?_ | (first | (apply opsx_new; apply ex_makeMap; exact nle rfl)) | ((first | (apply ops_split_t; rfl; rfl; exact nle rfl) | (apply ops_split_f; rfl; rfl; exact nle rfl) | (apply awp_cond; rfl)); all_goals (intro hc; have hp := hc; first | (simp at hp; done) | ((try simp at hp); first | (exfalso; omega) | skip))) | (apply awp_cond_any; rfl))
  apply to_call Tryd.func71 rfl rfl
  intro hIsFn
  unfold mergeR
  cases hS : mergeS B M T with
  | none =>
    rw [hS] at hm
    refine o_callm [4, 0, 1, 2, 3] [] [(4, .dead), (0, .dead), (1, .dead), (2, .dead), (3, .dead)] 5 (.v (.bool false)) hIsFn (hm) (by ((repeat' (first | exact argvl_nil | apply argvl_cons | exact argv_pure rfl | exact argv_ex | (apply argv_ren; apply ren_op; exact .inr (of_decide_eq_true rfl)) | (apply argv_ren; apply ren_mp; exact .inr (of_decide_eq_true rfl)) | (apply argv_ren; apply ren_os; exact .inr (of_decide_eq_true rfl)) | apply argv_agg | apply argv_clo))) <;> fail) (by ((repeat' (first | exact give_nil | exact back_nil | refine give_cons _ ?_ ?_ | refine back_cons ?_ ?_ | exact renhb_dead | exact renhb_mp (sideM_pure _) | exact renhb_mp (jk_pure _) | exact renhb_mp (goesM_pure _) | exact renhb_map (fun _ => rfl) | refine renhb_row ?_ | exact renl_nil | apply renl_cons | exact ren_pure rfl | (apply ren_mp; exact .inr (of_decide_eq_true rfl)) | (apply ren_os; exact .inr (of_decide_eq_true rfl)) | (apply ren_op; exact .inr (of_decide_eq_true rfl)) | exact renhb_mp (sideM_pure [])))) <;> fail) (by ((repeat' (first | exact give_nil | exact back_nil | refine give_cons _ ?_ ?_ | refine back_cons ?_ ?_ | exact renhb_dead | exact renhb_mp (sideM_pure _) | exact renhb_mp (jk_pure _) | exact renhb_mp (goesM_pure _) | exact renhb_map (fun _ => rfl) | refine renhb_row ?_ | exact renl_nil | apply renl_cons | exact ren_pure rfl | (apply ren_mp; exact .inr (of_decide_eq_true rfl)) | (apply ren_os; exact .inr (of_decide_eq_true rfl)) | (apply ren_op; exact .inr (of_decide_eq_true rfl)) | fail))) <;> fail) ?_
    repeat' (first | refine walk ?_ | (first | fail) | ((first | (apply ops_split_t; rfl; rfl; exact nle rfl) | (apply ops_split_f; rfl; rfl; exact nle rfl) | (apply awp_cond; rfl)); all_goals (intro hc; have hp := hc; first | (simp at hp; done) | ((try simp at hp); first | (exfalso; omega) | skip))) | (apply awp_cond_any; rfl))
    all_goals try (exfalso; first | omega | contradiction)
    unfold mgAV cpyAV
    (refine f_pure (rs := [.tmp 6, .tmp 7, .tmp 8]) ?_; (repeat' (first | exact rzl_nil | apply rzl_cons | exact rz_pure rfl | exact rz_ex | exact z_os | apply rz_agg | apply rz_tup | apply rz_clo | apply rz_int | apply rz_bool | apply rz_str | refine z_eq ?_ | apply rz_sl)); all_goals trace_state)
  | some s =>
    rw [hS] at hm
    have iS := (mergeS_right rB rM rT hS).1
    refine o_callm [4, 0, 1, 2, 3] [5] [(4, .own false 5 [[.mp 0, .mp 1, .mp 2, .mp 3, .os 5 0 s.cps.length]]), (0, .mp (sideM B)), (1, .mp (sideM M)), (2, .mp (sideM T)), (3, .mp (sideM s.out)), (5, .own false 2 (s.cps.map Cpy.row))] 6 (.v (.bool true)) hIsFn (hm) (by ((repeat' (first | exact argvl_nil | apply argvl_cons | exact argv_pure rfl | exact argv_ex | (apply argv_ren; apply ren_op; exact .inr (of_decide_eq_true rfl)) | (apply argv_ren; apply ren_mp; exact .inr (of_decide_eq_true rfl)) | (apply argv_ren; apply ren_os; exact .inr (of_decide_eq_true rfl)) | apply argv_agg | apply argv_clo))) <;> fail) (by ((repeat' (first | exact give_nil | exact back_nil | refine give_cons _ ?_ ?_ | refine back_cons ?_ ?_ | exact renhb_dead | exact renhb_mp (sideM_pure _) | exact renhb_mp (jk_pure _) | exact renhb_mp (goesM_pure _) | exact renhb_map (fun _ => rfl) | refine renhb_row ?_ | exact renl_nil | apply renl_cons | exact ren_pure rfl | (apply ren_mp; exact .inr (of_decide_eq_true rfl)) | (apply ren_os; exact .inr (of_decide_eq_true rfl)) | (apply ren_op; exact .inr (of_decide_eq_true rfl)) | exact renhb_mp (sideM_pure [])))) <;> fail) (by ((repeat' (first | exact give_nil | exact back_nil | refine give_cons _ ?_ ?_ | refine back_cons ?_ ?_ | exact renhb_dead | exact renhb_mp (sideM_pure _) | exact renhb_mp (jk_pure _) | exact renhb_mp (goesM_pure _) | exact renhb_map (fun _ => rfl) | refine renhb_row ?_ | exact renl_nil | apply renl_cons | exact ren_pure rfl | (apply ren_mp; exact .inr (of_decide_eq_true rfl)) | (apply ren_os; exact .inr (of_decide_eq_true rfl)) | (apply ren_op; exact .inr (of_decide_eq_true rfl)) | fail))) <;> fail) ?_
    have lo := sideM_len s.out
    by_cases h60 : 60 < s.out.length
    · dsimp only
      rw [if_pos h60]
      repeat' (first | refine walk ?_ | (first | (apply opsx_val; apply ex_len_mp; rfl; rfl; rfl; rfl; exact nle rfl)) | ((first | (apply ops_split_t; rfl; rfl; exact nle rfl) | (apply ops_split_f; rfl; rfl; exact nle rfl) | (apply awp_cond; rfl)); all_goals (intro hc; have hp := hc; first | (simp at hp; done) | ((try simp at hp); first | (exfalso; omega) | skip))) | (apply awp_cond_any; rfl))
      all_goals try (exfalso; first | omega | contradiction)
      all_goals unfold mgAV cpyAV
      all_goals ((refine f_pure (rs := [.tmp 6, .tmp 7, .tmp 8]) ?_; (repeat' (first | exact rzl_nil | apply rzl_cons | exact rz_pure rfl | exact rz_ex | exact z_os | apply rz_agg | apply rz_tup | apply rz_clo | apply rz_int | apply rz_bool | apply rz_str | refine z_eq ?_ | apply rz_sl)); all_goals trace_state))
    dsimp only
    rw [if_neg h60]
    have lK : (s.out.map Ent.path).length = s.out.length := List.length_map ..
    have ap := a_paths (sideM s.out) (s.out.map Ent.path) (ris_paths iS.rise) (by rw [sideM_keys]) (by rw [lK]; omega) (fun x hx => by
      obtain ⟨e, he, rfl⟩ := List.mem_map.1 hx
      exact Nat.le_trans (pathErr_small (entErr_zero (iS.ent e he)).1) (by decide))
    have hent : ∀ e, e ∈ s.out → ACall C6.P 73 [.op 0 0 0, .v (str e.path), entAV M, entAV T] (H6 B M T s.out s.cps) (.agg (verE M T e).row) (H6 B M T s.out s.cps) := fun e he => by
      have := m_entry B M T s.out s.cps e.path rM.rise rT.rise lM lT (st_has iS he)
      rwa [entW_at iS he] at this
    generalize hO : s.out = O at *
    generalize s.cps = cs at *
    repeat' (first | refine walk ?_ | (first | (apply opsx_val; apply ex_len_mp; rfl; rfl; rfl; rfl; exact nle rfl)) | ((first | (apply ops_split_t; rfl; rfl; exact nle rfl) | (apply ops_split_f; rfl; rfl; exact nle rfl) | (apply awp_cond; rfl)); all_goals (intro hc; have hp := hc; first | (simp at hp; done) | ((try simp at hp); first | (exfalso; omega) | skip))) | (apply awp_cond_any; rfl))
    all_goals try (exfalso; first | omega | contradiction)
    apply to_call Tryd.func72 rfl rfl
    intro hIsFn2
    refine o_callm [3] [6] [(3, .mp (sideM O)), (6, .own false 1 ((O.map Ent.path).map strAV))] 7 (.os 6 0 (O.map Ent.path).length) hIsFn2 (ap) (by ((repeat' (first | exact argvl_nil | apply argvl_cons | exact argv_pure rfl | exact argv_ex | (apply argv_ren; apply ren_op; exact .inr (of_decide_eq_true rfl)) | (apply argv_ren; apply ren_mp; exact .inr (of_decide_eq_true rfl)) | (apply argv_ren; apply ren_os; exact .inr (of_decide_eq_true rfl)) | apply argv_agg | apply argv_clo))) <;> fail) (by ((repeat' (first | exact give_nil | exact back_nil | refine give_cons _ ?_ ?_ | refine back_cons ?_ ?_ | exact renhb_dead | exact renhb_mp (sideM_pure _) | exact renhb_mp (jk_pure _) | exact renhb_mp (goesM_pure _) | exact renhb_map (fun _ => rfl) | refine renhb_row ?_ | exact renl_nil | apply renl_cons | exact ren_pure rfl | (apply ren_mp; exact .inr (of_decide_eq_true rfl)) | (apply ren_os; exact .inr (of_decide_eq_true rfl)) | (apply ren_op; exact .inr (of_decide_eq_true rfl)) | fail))) <;> fail) (by ((repeat' (first | exact give_nil | exact back_nil | refine give_cons _ ?_ ?_ | refine back_cons ?_ ?_ | exact renhb_dead | exact renhb_mp (sideM_pure _) | exact renhb_mp (jk_pure _) | exact renhb_mp (goesM_pure _) | exact renhb_map (fun _ => rfl) | refine renhb_row ?_ | exact renl_nil | apply renl_cons | exact ren_pure rfl | (apply ren_mp; exact .inr (of_decide_eq_true rfl)) | (apply ren_os; exact .inr (of_decide_eq_true rfl)) | (apply ren_op; exact .inr (of_decide_eq_true rfl)) | fail))) <;> fail) ?_
    repeat' (first | refine walk ?_ | (first | fail) | ((first | (apply ops_split_t; rfl; rfl; exact nle rfl) | (apply ops_split_f; rfl; rfl; exact nle rfl) | (apply awp_cond; rfl)); all_goals (intro hc; have hp := hc; first | (simp at hp; done) | ((try simp at hp); first | (exfalso; omega) | skip))) | (apply awp_cond_any; rfl))
    all_goals try (exfalso; first | omega | contradiction)
    clear ap
    refine Awp.red (red_nil 13 4 rfl (Nat.zero_le _)) ?_
    (refine Awp.red (red_ren (τ := ⟨[(1, entAV M), (2, entAV T), (12, .op 4 0 0), (13, .os 7 0 ((O.take 0).map (verE M T)).length), (55, .os 6 0 (O.map Ent.path).length), (56, .v (.int .i64 O.length)), (57, .v (.int .i64 ((0 : Nat) : Int)))], [(0, .mp (sideM B)), (1, .mp (sideM M)), (2, .mp (sideM T)), (3, .mp (sideM O)), (4, .own false 5 [[.mp 0, .mp 1, .mp 2, .mp 3, .os 5 0 cs.length]]), (5, .own false 2 (cs.map Cpy.row)), (6, .own false 1 ((O.map Ent.path).map strAV)), (7, .own false 4 (((O.take 0).map (verE M T)).map Ent.row))], 8⟩) [(4, 4), (7, 7), (6, 6), (5, 5), (0, 0), (1, 1), (2, 2), (3, 3)] rfl ?_ ?_) ?_; rotate_left 2; rotate_left 1; (focus ((repeat (first | exact tsok_nil | refine p_pure ?_ | refine p_op8 ?_ | refine p_osr8 ?_ | refine p_osx8 ?_ ?_ | refine p_mp8 ?_ | refine p_eq ?_ ?_)); all_goals (first | rfl | (rw [lK]; done) | trace_state))); (focus ((repeat' (first | exact hsok_nil | refine q_pm8 ?_ ?_ ?_ | refine q_r8 ?_ | refine q_row8 ?_ ?_ | refine q_idx8 ?_ ?_ | exact renl_nil | apply renl_cons | exact ren_pure rfl | (apply ren_mp; (refine .inr ?_; (repeat (first | exact List.mem_cons_self .. | apply List.mem_cons_of_mem)))) | (apply ren_os; (refine .inr ?_; (repeat (first | exact List.mem_cons_self .. | apply List.mem_cons_of_mem)))))); all_goals (first | with_reducible exact sideM_pure _ | with_reducible exact List.Perm.refl _ | rfl | trace_state))))
    refine awp_loop (fun n σ => ∃ i : Nat, i ≤ O.length ∧ n = O.length - i ∧ True ∧ σ = ⟨[(1, entAV M), (2, entAV T), (12, .op 4 0 0), (13, .os 7 0 ((O.take i).map (verE M T)).length), (55, .os 6 0 (O.map Ent.path).length), (56, .v (.int .i64 O.length)), (57, .v (.int .i64 (i : Int)))], [(0, .mp (sideM B)), (1, .mp (sideM M)), (2, .mp (sideM T)), (3, .mp (sideM O)), (4, .own false 5 [[.mp 0, .mp 1, .mp 2, .mp 3, .os 5 0 cs.length]]), (5, .own false 2 (cs.map Cpy.row)), (6, .own false 1 ((O.map Ent.path).map strAV)), (7, .own false 4 (((O.take i).map (verE M T)).map Ent.row))], 8⟩) O.length ⟨0, by omega, rfl, trivial, rfl⟩ ?_
    rintro n σ ⟨i, hi, rfl, -, rfl⟩
    by_cases hlt : i < O.length
    · have hrow : ((O.map Ent.path).map strAV)[i]? = some (strAV O[i].path) := by rw [List.getElem?_map, List.getElem?_map, List.getElem?_eq_getElem hlt]; rfl
      have hen := hent O[i] (List.getElem_mem hlt)
      have hlt2 : i < (O.map Ent.path).length := by rw [lK]; exact hlt
      have hlen : ((O.take i).map (verE M T)).length = i := by rw [List.length_map, List.length_take]; omega
      have hlen2 : ((O.take (i + 1)).map (verE M T)).length = i + 1 := by rw [List.length_map, List.length_take]; omega
      have hstep : (((O.take i).map (verE M T)).map Ent.row).take ((O.take i).map (verE M T)).length ++ [(verE M T O[i]).row] = ((O.take (i + 1)).map (verE M T)).map Ent.row := by
        rw [List.take_of_length_le (by simp), List.take_succ_eq_append_getElem hlt, List.map_append, List.map_append]; rfl
      clear hent
      repeat' (first | refine walk ?_ | (first | (refine o_ixo ?_)) | ((first | (apply ops_split_t; rfl; rfl; exact nle rfl) | (apply ops_split_f; rfl; rfl; exact nle rfl) | (apply awp_cond; rfl)); all_goals (intro hc; have hp := hc; first | (simp at hp; done) | ((try simp at hp); first | (exfalso; omega) | skip))) | (apply awp_cond_any; rfl))
      all_goals try (exfalso; first | omega | contradiction)
      apply to_call Tryd.func73 rfl rfl
      intro hIsFn3
      refine o_callm [4, 0, 1, 2, 3, 5] [] [(4, .own false 5 [[.mp 0, .mp 1, .mp 2, .mp 3, .os 5 0 cs.length]]), (0, .mp (sideM B)), (1, .mp (sideM M)), (2, .mp (sideM T)), (3, .mp (sideM O)), (5, .own false 2 (cs.map Cpy.row))] 8 (.agg (verE M T O[i]).row) hIsFn3 (hen) (by ((repeat' (first | exact argvl_nil | apply argvl_cons | exact argv_pure rfl | exact argv_ex | (apply argv_ren; apply ren_op; exact .inr (of_decide_eq_true rfl)) | (apply argv_ren; apply ren_mp; exact .inr (of_decide_eq_true rfl)) | (apply argv_ren; apply ren_os; exact .inr (of_decide_eq_true rfl)) | apply argv_agg | apply argv_clo))) <;> fail) (by ((repeat' (first | exact give_nil | exact back_nil | refine give_cons _ ?_ ?_ | refine back_cons ?_ ?_ | exact renhb_dead | exact renhb_mp (sideM_pure _) | exact renhb_mp (jk_pure _) | exact renhb_mp (goesM_pure _) | exact renhb_map (fun _ => rfl) | refine renhb_row ?_ | exact renl_nil | apply renl_cons | exact ren_pure rfl | (apply ren_mp; exact .inr (of_decide_eq_true rfl)) | (apply ren_os; exact .inr (of_decide_eq_true rfl)) | (apply ren_op; exact .inr (of_decide_eq_true rfl)) | fail))) <;> fail) (by ((repeat' (first | exact give_nil | exact back_nil | refine give_cons _ ?_ ?_ | refine back_cons ?_ ?_ | exact renhb_dead | exact renhb_mp (sideM_pure _) | exact renhb_mp (jk_pure _) | exact renhb_mp (goesM_pure _) | exact renhb_map (fun _ => rfl) | refine renhb_row ?_ | exact renl_nil | apply renl_cons | exact ren_pure rfl | (apply ren_mp; exact .inr (of_decide_eq_true rfl)) | (apply ren_os; exact .inr (of_decide_eq_true rfl)) | (apply ren_op; exact .inr (of_decide_eq_true rfl)) | fail))) <;> fail) ?_
      generalize verE M T O[i] = e at *
      repeat' (first | refine walk ?_ | (first | (refine o_fzl ?_) | (refine o_appo ?_)) | ((first | (apply ops_split_t; rfl; rfl; exact nle rfl) | (apply ops_split_f; rfl; rfl; exact nle rfl) | (apply awp_cond; rfl)); all_goals (intro hc; have hp := hc; first | (simp at hp; done) | ((try simp at hp); first | (exfalso; omega) | skip))) | (apply awp_cond_any; rfl))
      all_goals try (exfalso; first | omega | contradiction)
      refine ⟨O.length - (i + 1), ⟨[(1, entAV M), (2, entAV T), (12, .op 4 0 0), (13, .os 7 0 ((O.take (i + 1)).map (verE M T)).length), (55, .os 6 0 (O.map Ent.path).length), (56, .v (.int .i64 O.length)), (57, .v (.int .i64 ((i + 1 : Nat) : Int)))], [(0, .mp (sideM B)), (1, .mp (sideM M)), (2, .mp (sideM T)), (3, .mp (sideM O)), (4, .own false 5 [[.mp 0, .mp 1, .mp 2, .mp 3, .os 5 0 cs.length]]), (5, .own false 2 (cs.map Cpy.row)), (6, .own false 1 ((O.map Ent.path).map strAV)), (7, .own false 4 (((O.take (i + 1)).map (verE M T)).map Ent.row))], 8⟩, by omega, ?_, i + 1, by omega, rfl, trivial, rfl⟩; (skip); refine red_ren [(4, 4), (8, 7), (6, 6), (5, 5), (0, 0), (1, 1), (2, 2), (3, 3)] rfl ?_ ?_; (focus ((repeat (first | exact tsok_nil | refine p_pure ?_ | refine p_op8 ?_ | refine p_osr8 ?_ | refine p_osx8 ?_ ?_ | refine p_mp8 ?_ | refine p_eq ?_ ?_)); all_goals (first | rfl | (rw [hlen, hlen2]; rfl) | omega | trace_state))); (focus ((repeat' (first | exact hsok_nil | refine q_pm8 ?_ ?_ ?_ | refine q_r8 ?_ | refine q_row8 ?_ ?_ | refine q_idx8 ?_ ?_ | exact renl_nil | apply renl_cons | exact ren_pure rfl | (apply ren_mp; (refine .inr ?_; (repeat (first | exact List.mem_cons_self .. | apply List.mem_cons_of_mem)))) | (apply ren_os; (refine .inr ?_; (repeat (first | exact List.mem_cons_self .. | apply List.mem_cons_of_mem)))))); all_goals (first | with_reducible exact sideM_pure _ | with_reducible exact List.Perm.refl _ | exact hstep | rfl | trace_state)))
    obtain rfl : i = O.length := by omega
    rw [List.take_length]
    clear hent
    repeat' (first | refine walk ?_ | (first | fail) | ((first | (apply ops_split_t; rfl; rfl; exact nle rfl) | (apply ops_split_f; rfl; rfl; exact nle rfl) | (apply awp_cond; rfl)); all_goals (intro hc; have hp := hc; first | (simp at hp; done) | ((try simp at hp); first | (exfalso; omega) | skip))) | (apply awp_cond_any; rfl))
    all_goals try (exfalso; first | omega | contradiction)
    unfold mgAV cpyAV
    (refine f_pure (rs := [.tmp 6, .tmp 7, .tmp 8]) ?_; (repeat' (first | exact rzl_nil | apply rzl_cons | exact rz_pure rfl | exact rz_ex | exact z_os | apply rz_agg | apply rz_tup | apply rz_clo | apply rz_int | apply rz_bool | apply rz_str | refine z_eq ?_ | apply rz_sl)); all_goals trace_state)
end Go.Proofs.YtkkfilkmkdnboaaDoor
