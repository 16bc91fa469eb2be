import Derived.Test.YtaoffekhpjgmdaaGreatDoorTuB
/- The reference's trees, 5: ChangeOf: deletions. -/
set_option linter.unusedSimpArgs false
set_option linter.unnecessarySimpa false
set_option linter.unusedVariables false
set_option maxHeartbeats 1000000
namespace Go.Proofs.YtaoffekhpjgmdaaGreatDoor
open Go.Ab Go.RowKit
set_option maxRecDepth 10000
attribute [local irreducible] Awp Ops OpsX Wanted Red ExOk Go.Ab.Fin ACall Rz RzL RzRows Enters ResOk RenV RenVL ArgV ArgVL

theorem a_co4 (t : List Ent) (c : Chg) (v : Int) (h60 : t.length ≤ 60) (hs : rising entLt t = true) (hgt : ∀ x, x ∈ t → pathErr x.path = 0) (hcs : c.small) (hk : c.kind = 4) (h0 : chgErr c = 0) (h1 : preErr t c = 0) (h2 : staleErr t c = 0) : AFn C.P 35 [entAV t, .agg c.row, .v (.int .i64 v)] (.tup [entAV (if doneE t c v = 0 then doneL t c v else []), .v (.int .i64 (doneE t c v))]) := by
  obtain ⟨l1, l2, l3⟩ := hcs
  have hform := a_changeForm c ⟨l1, l2, l3⟩
  have hpo1 := a_parentOf c.path (by omega)
  have hpo2 := a_parentOf c.to (by omega)
  have hfo := a_isFolder t (parentOf (goalOf c)) (by omega)
  have hea := a_entryAt t c.path (by omega)
  have heb := a_entryAt t c.to (by omega)
  have hinn := a_isIn c.to c.path (by omega) (by omega)
  have hkk := chgErr_zero h0
  have hbase : -1 ≤ c.base := chg_base h0
  obtain ⟨hz1, hz2, hz3⟩ := pre_zero h1
  have hst : ∀ x, x ∈ t → ¬ c.base = -1 → (decide (c.base < x.ver) && inB x.path c.path) = false := fun x hx hb => by
    unfold staleErr at h2
    by_cases h3 : t.any (newer c) = true
    · rw [if_pos ⟨hb, h3⟩] at h2; exact absurd h2 (by decide)
    · have h4 : t.any (newer c) = false := by simpa using h3
      rw [List.any_eq_false] at h4
      have h5 := h4 x hx
      simpa [newer] using h5
  clear h2
  have hh := isErr_hit (by omega) hz2
  obtain ⟨hkk2, _, hfi, hix⟩ := hitE_at hs hh
  have hg0 : goalOf c = c.path := by simp [goalOf, hk]
  rw [hz1, hg0] at hfo
  rw [h0] at hform
  rw [hix] at hea
  generalize posE t c.path = k at *
  have hD : doneL t c v = keepE (inP c.path) t := by simp [doneL, hk]
  have hE : doneE t c v = if 60 < (doneL t c v).length then 2 else 0 := by simp [doneE, moveBad, hk]
  rw [hE, hD]
  clear hE hD hz1 hz2 hz3 h1 h0
  have hlen : (keepE (inP c.path) t).length ≤ t.length := List.length_filter_le ..
  have hL : ¬ 60 < (keepE (inP c.path) t).length := by omega
  rw [if_neg hL]
  refine acall_intro Tryz.func35 rfl _ Tryz.ntmps35 (Nat.le_of_ble_eq_true rfl) _ Tryz.results35 0 rfl rfl ?_
  repeat' (first | refine walk ?_ | (first | (apply to_call Tryz.func57 rfl rfl; intro hIsFn; refine o_callf hIsFn (hform ..) ?_; skip) | (apply to_call Tryz.func40 rfl rfl; intro hIsFn; refine o_callf hIsFn (hpo1 ..) ?_; skip) | (apply to_call Tryz.func40 rfl rfl; intro hIsFn; refine o_callf hIsFn (hpo2 ..) ?_; skip) | (apply to_call Tryz.func39 rfl rfl; intro hIsFn; refine o_callp hIsFn (hfo ..) ?_) | (apply to_call Tryz.func54 rfl rfl; intro hIsFn; refine o_callp hIsFn (hea ..) ?_) | (apply to_call Tryz.func54 rfl rfl; intro hIsFn; refine o_callp hIsFn (heb ..) ?_) | (apply to_call Tryz.func58 rfl rfl; intro hIsFn; refine o_callf hIsFn (hinn ..) ?_; skip)) | ((first | (apply ops_split_t; rfl; rfl; exact nle rfl) | (apply ops_split_f; rfl; rfl; exact nle rfl) | (apply awp_cond; rfl)); all_goals (intro hc; have hp := hc; first | (simp at hp; done) | ((try simp at hp); first | (exfalso; omega) | skip))) | (apply awp_cond_any; rfl))
  all_goals try (exfalso; omega)
  apply cut_here
  case h =>
    intro key
    (refine Awp.red (red_freeze 0 rfl ?_) ?_; (intro row hrow; obtain rfl := List.mem_singleton.1 hrow; rfl); refine Awp.red (red_fp 4 0 rfl rfl (Nat.le_of_ble_eq_true rfl)) ?_)
    (refine Awp.red (red_pure (ts := [(0, entAV t), (2, .v (.int .i64 v)), (4, .fp [c.row] 0 0), (11, .v (.int .i64 ((0 : Nat) : Int)))]) ?_) ?_; ((repeat (first | exact tsok_nil | refine p_pure ?_ | refine p_eq ?_ ?_))))
    refine awp_loop (fun n σ => ∃ i : Nat, i ≤ t.length ∧ n = t.length - i ∧ (True) ∧ σ = ⟨[(0, entAV t), (2, .v (.int .i64 v)), (4, .fp [c.row] 0 0), (11, .v (.int .i64 (i : Int)))], [], C.nh⟩) t.length ⟨0, Nat.zero_le _, rfl, trivial, rfl⟩ ?_
    rintro n σ ⟨i, hi, rfl, -, rfl⟩
    by_cases hlt : i < t.length
    · have hr := getRow (f := Ent.row) hlt
      have hnw := hst t[i] (List.getElem_mem _)
      have hpl := pathErr_small (hgt t[i] (List.getElem_mem _))
      have hii := a_isIn t[i].path c.path (by omega) (by omega)
      generalize inB t[i].path c.path = IB at *
      repeat' (first | refine walk ?_ | (first | (apply to_call Tryz.func58 rfl rfl; intro hIsFn; refine o_callf hIsFn (hii ..) ?_; skip)) | ((first | (apply ops_split_t; rfl; rfl; exact nle rfl) | (apply ops_split_f; rfl; rfl; exact nle rfl) | (apply awp_cond; rfl)); all_goals (intro hc; have hp := hc; first | (simp at hp; done) | ((try simp at hp); first | (exfalso; omega) | skip))) | (apply awp_cond_any; rfl))
      all_goals try (exfalso; omega)
      all_goals try (
        have h9 := hnw (by omega)
        rw [Bool.and_eq_false_iff] at h9
        rcases h9 with h9 | h9
        · exact absurd (h9.symm.trans (by assumption)) Bool.false_ne_true
        · exact absurd (h9.symm.trans (by assumption)) Bool.false_ne_true)
      all_goals first
        | (refine ⟨t.length - (i + 1), _, by omega, red_pure (ts := [(0, entAV t), (2, .v (.int .i64 v)), (4, .fp [c.row] 0 0), (11, .v (.int .i64 ((i + 1 : Nat) : Int)))]) ?_, i + 1, by omega, rfl, trivial, rfl⟩; ((repeat (first | exact tsok_nil | refine p_pure ?_ | refine p_eq ?_ ?_))))
        | ((repeat' (first | refine walk ?_ | (first | fail) | ((first | (apply ops_split_t; rfl; rfl; exact nle rfl) | (apply ops_split_f; rfl; rfl; exact nle rfl) | (apply awp_cond; rfl)); all_goals (intro hc; have hp := hc; first | (simp at hp; done) | ((try simp at hp); first | (exfalso; omega) | skip))) | (apply awp_cond_any; rfl)))
           (all_goals try (exfalso; omega))
           (refine Awp.red (red_pure (ts := [(0, entAV t), (2, .v (.int .i64 v)), (4, .fp [c.row] 0 0), (12, .sl true []), (13, .v (.int .i64 ((0 : Nat) : Int)))]) ?_) ?_; ((repeat (first | exact tsok_nil | refine p_pure ?_ | refine p_eq ?_ ?_))))
           exact key.out)
    · obtain rfl : i = t.length := by omega
      (repeat' (first | refine walk ?_ | (first | fail) | ((first | (apply ops_split_t; rfl; rfl; exact nle rfl) | (apply ops_split_f; rfl; rfl; exact nle rfl) | (apply awp_cond; rfl)); all_goals (intro hc; have hp := hc; first | (simp at hp; done) | ((try simp at hp); first | (exfalso; omega) | skip))) | (apply awp_cond_any; rfl)))
      (all_goals try (exfalso; omega))
      (refine Awp.red (red_pure (ts := [(0, entAV t), (2, .v (.int .i64 v)), (4, .fp [c.row] 0 0), (12, .sl true []), (13, .v (.int .i64 ((0 : Nat) : Int)))]) ?_) ?_; ((repeat (first | exact tsok_nil | refine p_pure ?_ | refine p_eq ?_ ?_))))
      exact key.out
  refine Awp.red (red_nil 12 4 rfl (Nat.le_refl _)) ?_
  (refine Awp.red (red_ren (τ := ⟨[(0, entAV t), (2, .v (.int .i64 v)), (4, .fp [c.row] 0 0), (12, .os 0 0 0), (13, .v (.int .i64 ((0 : Nat) : Int)))], [(0, .own false 4 [])], 1⟩) [(0, 0)] rfl ?gts ?ghs) ?gmain; (case gts => (repeat (first | exact tsok_nil | refine p_pure ?_ | refine p_op ?_ | refine p_os ?_ | refine p_eq ?_ ?_))); (case ghs => (repeat (first | exact hsok_nil | refine q_id ?_ | refine q_idx ?_ ?_))))
  refine awp_loop (fun n σ => ∃ i : Nat, i ≤ t.length ∧ n = t.length - i ∧ (True) ∧ σ = ⟨[(0, entAV t), (2, .v (.int .i64 v)), (4, .fp [c.row] 0 0), (12, .os 0 0 (keepE (inP c.path) (t.take i)).length), (13, .v (.int .i64 (i : Int)))], [(0, .own false 4 ((keepE (inP c.path) (t.take i)).map Ent.row))], 1⟩) t.length ⟨0, Nat.zero_le _, rfl, trivial, rfl⟩ ?_
  rintro n σ ⟨i, hi, rfl, -, rfl⟩
  by_cases hlt : i < t.length
  · have hr := getRow (f := Ent.row) hlt
    have hpl := pathErr_small (hgt t[i] (List.getElem_mem _))
    have hii := a_isIn t[i].path c.path (by omega) (by omega)
    have hks := @keepE_succ (inP c.path) t i hlt
    have hkl := keepE_len (inP c.path) t i (by omega)
    have hin : inP c.path t[i] = inB t[i].path c.path := rfl
    rw [hin] at hks
    generalize inB t[i].path c.path = IB at *
    clear hin hst
    generalize hGG : keepE (inP c.path) (t.take i) = G at hks hkl ⊢
    clear hGG
    cases IB with
    | true =>
      rw [if_pos rfl] at hks
      repeat' (first | refine walk ?_ | (first | (refine o_fzl ?_) | (refine o_appo ?_) | (apply to_call Tryz.func58 rfl rfl; intro hIsFn; refine o_callf hIsFn (hii ..) ?_; skip)) | ((first | (apply ops_split_t; rfl; rfl; exact nle rfl) | (apply ops_split_f; rfl; rfl; exact nle rfl) | (apply awp_cond; rfl)); all_goals (intro hc; have hp := hc; first | (simp at hp; done) | ((try simp at hp); first | (exfalso; omega) | skip))) | (apply awp_cond_any; rfl))
      all_goals try (exfalso; omega)
      refine ⟨t.length - (i + 1), _, by omega, red_ren (τ := ⟨[(0, entAV t), (2, .v (.int .i64 v)), (4, .fp [c.row] 0 0), (12, .os 0 0 (keepE (inP c.path) (t.take (i + 1))).length), (13, .v (.int .i64 ((i + 1 : Nat) : Int)))], [(0, .own false 4 ((keepE (inP c.path) (t.take (i + 1))).map Ent.row))], 1⟩) [(0, 0)] rfl ?gts ?ghs, i + 1, by omega, rfl, trivial, rfl⟩; (case gts => (repeat (first | exact tsok_nil | refine p_pure ?_ | refine p_op ?_ | refine p_os ?_ | refine p_eq ?_ ?_)); all_goals (rw [hks])); (case ghs => (repeat (first | exact hsok_nil | refine q_id ?_ | refine q_idx ?_ ?_)); all_goals (rw [hks]))
    | false =>
      rw [if_neg (by decide)] at hks
      repeat' (first | refine walk ?_ | (first | (refine o_fzl ?_) | (refine o_appo ?_) | (apply to_call Tryz.func58 rfl rfl; intro hIsFn; refine o_callf hIsFn (hii ..) ?_; skip)) | ((first | (apply ops_split_t; rfl; rfl; exact nle rfl) | (apply ops_split_f; rfl; rfl; exact nle rfl) | (apply awp_cond; rfl)); all_goals (intro hc; have hp := hc; first | (simp at hp; done) | ((try simp at hp); first | (exfalso; omega) | skip))) | (apply awp_cond_any; rfl))
      all_goals try (exfalso; omega)
      refine ⟨t.length - (i + 1), _, by omega, red_ren (τ := ⟨[(0, entAV t), (2, .v (.int .i64 v)), (4, .fp [c.row] 0 0), (12, .os 0 0 (keepE (inP c.path) (t.take (i + 1))).length), (13, .v (.int .i64 ((i + 1 : Nat) : Int)))], [(0, .own false 4 ((keepE (inP c.path) (t.take (i + 1))).map Ent.row))], 1⟩) [(1, 0)] rfl ?gts ?ghs, i + 1, by omega, rfl, trivial, rfl⟩; (case gts => (repeat (first | exact tsok_nil | refine p_pure ?_ | refine p_op ?_ | refine p_os ?_ | refine p_eq ?_ ?_)); all_goals (rw [hks]; try first | (simp; done) | (rw [List.take_of_length_le (by simp)]; simp; done))); (case ghs => (repeat (first | exact hsok_nil | refine q_id ?_ | refine q_idx ?_ ?_)); all_goals (rw [hks]; try first | (simp; done) | (rw [List.take_of_length_le (by simp)]; simp; done)))
  · obtain rfl : i = t.length := by omega
    rw [List.take_length]
    (repeat' (first | refine walk ?_ | (first | fail) | ((first | (apply ops_split_t; rfl; rfl; exact nle rfl) | (apply ops_split_f; rfl; rfl; exact nle rfl) | (apply awp_cond; rfl)); all_goals (intro hc; have hp := hc; first | (simp at hp; done) | ((try simp at hp); first | (exfalso; omega) | skip))) | (apply awp_cond_any; rfl)))
    (all_goals try (exfalso; omega))
    refine Awp.red (red_freeze 0 rfl (by intro row hrow; obtain ⟨x, _, rfl⟩ := List.mem_map.1 hrow; rfl)) ?_
    refine Awp.red (red_fs 12 0 rfl rfl (by simp)) ?_
    (refine Awp.red (red_pure (ts := [(0, entAV t), (2, .v (.int .i64 v)), (4, .fp [c.row] 0 0), (12, entAV (keepE (inP c.path) t)), (14, .v (.int .i64 ((0 : Nat) : Int)))]) ?_) ?_; ((repeat (first | exact tsok_nil | refine p_pure ?_ | refine p_eq ?_ ?_))))
    all_goals try (rw [List.drop_zero, List.take_of_length_le (by simp)]; rfl)
    refine awp_loop (fun n σ => ∃ i : Nat, i ≤ t.length ∧ n = t.length - i ∧ (True) ∧ σ = ⟨[(0, entAV t), (2, .v (.int .i64 v)), (4, .fp [c.row] 0 0), (12, entAV (keepE (inP c.path) t)), (14, .v (.int .i64 (i : Int)))], [], C.nh⟩) t.length ⟨0, Nat.zero_le _, rfl, trivial, rfl⟩ ?_
    rintro n σ ⟨i, hi, rfl, -, rfl⟩
    have hml : (List.map Ent.row (keepE (inP c.path) t)).length = (keepE (inP c.path) t).length := List.length_map ..
    (repeat' (first | refine walk ?_ | (first | fail) | ((first | (apply ops_split_t; rfl; rfl; exact nle rfl) | (apply ops_split_f; rfl; rfl; exact nle rfl) | (apply awp_cond; rfl)); all_goals (intro hc; have hp := hc; first | (simp at hp; done) | ((try simp at hp); first | (exfalso; omega) | skip))) | (apply awp_cond_any; rfl)))
    (all_goals try (exfalso; omega))
    (all_goals ((refine f_pure (rs := [.tmp 6, .tmp 7]) ?_; (repeat' (first | exact rzl_nil | apply rzl_cons | exact rz_pure rfl | exact rz_ex | exact z_os | apply rz_agg | apply rz_tup | apply rz_clo | apply rz_int | apply rz_bool | apply rz_str | refine z_eq ?_ | apply rz_sl)); all_goals trace_state)))
end Go.Proofs.YtaoffekhpjgmdaaGreatDoor

/- The reference's trees, 6: ChangeOf: moves. -/
set_option linter.unusedSimpArgs false
set_option linter.unnecessarySimpa false
set_option linter.unusedVariables false
set_option maxHeartbeats 1000000
namespace Go.Proofs.YtaoffekhpjgmdaaGreatDoor
open Go.Ab Go.RowKit
set_option maxRecDepth 10000
attribute [local irreducible] Awp Ops OpsX Wanted Red ExOk Go.Ab.Fin ACall Rz RzL RzRows Enters ResOk RenV RenVL ArgV ArgVL

set_option maxHeartbeats 1000000 in
theorem a_co3 (t : List Ent) (c : Chg) (v : Int) (h60 : t.length ≤ 60) (hs : rising entLt t = true) (hgt : ∀ x, x ∈ t → pathErr x.path = 0) (hcs : c.small) (hk : c.kind = 3) (h0 : chgErr c = 0) (h1 : preErr t c = 0) (h2 : staleErr t c = 0) : AFn C.P 35 [entAV t, .agg c.row, .v (.int .i64 v)] (.tup [entAV (if doneE t c v = 0 then doneL t c v else []), .v (.int .i64 (doneE t c v))]) := by
  obtain ⟨l1, l2, l3⟩ := hcs
  have hform := a_changeForm c ⟨l1, l2, l3⟩
  have hpo1 := a_parentOf c.path (by omega)
  have hpo2 := a_parentOf c.to (by omega)
  have hfo := a_isFolder t (parentOf (goalOf c)) (by omega)
  have hea := a_entryAt t c.path (by omega)
  have heb := a_entryAt t c.to (by omega)
  have hinn := a_isIn c.to c.path (by omega) (by omega)
  have hkk := chgErr_zero h0
  have hbase : -1 ≤ c.base := chg_base h0
  obtain ⟨hz1, hz2, hz3⟩ := pre_zero h1
  have hst : ∀ x, x ∈ t → ¬ c.base = -1 → (decide (c.base < x.ver) && inB x.path c.path) = false := fun x hx hb => by
    unfold staleErr at h2
    by_cases h3 : t.any (newer c) = true
    · rw [if_pos ⟨hb, h3⟩] at h2; exact absurd h2 (by decide)
    · have h4 : t.any (newer c) = false := by simpa using h3
      rw [List.any_eq_false] at h4
      have h5 := h4 x hx
      simpa [newer] using h5
  clear h2
  have hh := isErr_hit (by omega) hz2
  obtain ⟨hkk2, _, hfi, hix⟩ := hitE_at hs hh
  have hg0 : goalOf c = c.to := by simp [goalOf, hk]
  rw [hz1, hg0] at hfo
  rw [h0] at hform
  rw [hix] at hea
  have hM : mvErr t c = if inB c.to c.path = true then 3 else if hitE t c.to = true then 6 else 0 := by unfold mvErr; rw [if_pos hk]
  rw [hz3] at hM
  have hin0 : inB c.to c.path = false := by
    cases h : inB c.to c.path with
    | true => rw [h] at hM; simp at hM
    | false => rfl
  rw [hin0, if_neg (by decide)] at hM
  have hhit : hitE t c.to = false := by
    cases h : hitE t c.to with
    | true => rw [h] at hM; simp at hM
    | false => rfl
  rw [(hitE_none hhit).2] at heb
  rw [hin0] at hinn
  obtain ⟨-, -, hpe, hte, -⟩ := hkk
  have hpt := hte hk
  have hps := pathErr_small hpe
  have hpts := pathErr_small hpt
  generalize posE t c.path = k at *
  have hDD : doneL t c v = (goesOf t c v).foldl putT (keepE (inP c.path) t) := by simp [doneL, hk]
  have hEE : moveBad t c = false → doneE t c v = if 60 < (doneL t c v).length then 2 else 0 := fun h => by simp [doneE, h]
  have hKl : (keepE (inP c.path) t).length ≤ t.length := List.length_filter_le ..
  have hKr := keepE_rising (p := inP c.path) hs
  clear hM hz1 hz2 hz3 h1 h0 hin0 hfi hix
  refine acall_intro Tryz.func35 rfl _ Tryz.ntmps35 (Nat.le_of_ble_eq_true rfl) _ Tryz.results35 0 rfl rfl ?_
  repeat' (first | refine walk ?_ | (first | (apply to_call Tryz.func57 rfl rfl; intro hIsFn; refine o_callf hIsFn (hform ..) ?_; skip) | (apply to_call Tryz.func40 rfl rfl; intro hIsFn; refine o_callf hIsFn (hpo1 ..) ?_; skip) | (apply to_call Tryz.func40 rfl rfl; intro hIsFn; refine o_callf hIsFn (hpo2 ..) ?_; skip) | (apply to_call Tryz.func39 rfl rfl; intro hIsFn; refine o_callp hIsFn (hfo ..) ?_) | (apply to_call Tryz.func54 rfl rfl; intro hIsFn; refine o_callp hIsFn (hea ..) ?_) | (apply to_call Tryz.func54 rfl rfl; intro hIsFn; refine o_callp hIsFn (heb ..) ?_) | (apply to_call Tryz.func58 rfl rfl; intro hIsFn; refine o_callf hIsFn (hinn ..) ?_; skip)) | ((first | (apply ops_split_t; rfl; rfl; exact nle rfl) | (apply ops_split_f; rfl; rfl; exact nle rfl) | (apply awp_cond; rfl)); all_goals (intro hc; have hp := hc; first | (simp at hp; done) | ((try simp at hp); first | (exfalso; omega) | skip))) | (apply awp_cond_any; rfl))
  all_goals try (exfalso; omega)
  apply cut_here
  case h =>
    intro key
    (refine Awp.red (red_freeze 0 rfl ?_) ?_; (intro row hrow; obtain rfl := List.mem_singleton.1 hrow; rfl); refine Awp.red (red_fp 4 0 rfl rfl (Nat.le_of_ble_eq_true rfl)) ?_)
    (refine Awp.red (red_pure (ts := [(0, entAV t), (2, .v (.int .i64 v)), (4, .fp [c.row] 0 0), (11, .v (.int .i64 ((0 : Nat) : Int)))]) ?_) ?_; ((repeat (first | exact tsok_nil | refine p_pure ?_ | refine p_eq ?_ ?_))))
    refine awp_loop (fun n σ => ∃ i : Nat, i ≤ t.length ∧ n = t.length - i ∧ (True) ∧ σ = ⟨[(0, entAV t), (2, .v (.int .i64 v)), (4, .fp [c.row] 0 0), (11, .v (.int .i64 (i : Int)))], [], C.nh⟩) t.length ⟨0, Nat.zero_le _, rfl, trivial, rfl⟩ ?_
    rintro n σ ⟨i, hi, rfl, -, rfl⟩
    by_cases hlt : i < t.length
    · have hr := getRow (f := Ent.row) hlt
      have hnw := hst t[i] (List.getElem_mem _)
      have hpl := pathErr_small (hgt t[i] (List.getElem_mem _))
      have hii := a_isIn t[i].path c.path (by omega) (by omega)
      generalize inB t[i].path c.path = IB at *
      repeat' (first | refine walk ?_ | (first | (apply to_call Tryz.func58 rfl rfl; intro hIsFn; refine o_callf hIsFn (hii ..) ?_; skip)) | ((first | (apply ops_split_t; rfl; rfl; exact nle rfl) | (apply ops_split_f; rfl; rfl; exact nle rfl) | (apply awp_cond; rfl)); all_goals (intro hc; have hp := hc; first | (simp at hp; done) | ((try simp at hp); first | (exfalso; omega) | skip))) | (apply awp_cond_any; rfl))
      all_goals try (exfalso; omega)
      all_goals try (
        have h9 := hnw (by omega)
        rw [Bool.and_eq_false_iff] at h9
        rcases h9 with h9 | h9
        · exact absurd (h9.symm.trans (by assumption)) Bool.false_ne_true
        · exact absurd (h9.symm.trans (by assumption)) Bool.false_ne_true)
      all_goals first
        | (refine ⟨t.length - (i + 1), _, by omega, red_pure (ts := [(0, entAV t), (2, .v (.int .i64 v)), (4, .fp [c.row] 0 0), (11, .v (.int .i64 ((i + 1 : Nat) : Int)))]) ?_, i + 1, by omega, rfl, trivial, rfl⟩; ((repeat (first | exact tsok_nil | refine p_pure ?_ | refine p_eq ?_ ?_))))
        | ((repeat' (first | refine walk ?_ | (first | fail) | ((first | (apply ops_split_t; rfl; rfl; exact nle rfl) | (apply ops_split_f; rfl; rfl; exact nle rfl) | (apply awp_cond; rfl)); all_goals (intro hc; have hp := hc; first | (simp at hp; done) | ((try simp at hp); first | (exfalso; omega) | skip))) | (apply awp_cond_any; rfl)))
           (all_goals try (exfalso; omega))
           (refine Awp.red (red_pure (ts := [(0, entAV t), (2, .v (.int .i64 v)), (4, .fp [c.row] 0 0), (12, .sl true []), (13, .v (.int .i64 ((0 : Nat) : Int)))]) ?_) ?_; ((repeat (first | exact tsok_nil | refine p_pure ?_ | refine p_eq ?_ ?_))))
           exact key.out)
    · obtain rfl : i = t.length := by omega
      (repeat' (first | refine walk ?_ | (first | fail) | ((first | (apply ops_split_t; rfl; rfl; exact nle rfl) | (apply ops_split_f; rfl; rfl; exact nle rfl) | (apply awp_cond; rfl)); all_goals (intro hc; have hp := hc; first | (simp at hp; done) | ((try simp at hp); first | (exfalso; omega) | skip))) | (apply awp_cond_any; rfl)))
      (all_goals try (exfalso; omega))
      (refine Awp.red (red_pure (ts := [(0, entAV t), (2, .v (.int .i64 v)), (4, .fp [c.row] 0 0), (12, .sl true []), (13, .v (.int .i64 ((0 : Nat) : Int)))]) ?_) ?_; ((repeat (first | exact tsok_nil | refine p_pure ?_ | refine p_eq ?_ ?_))))
      exact key.out
  refine Awp.red (red_nil 12 4 rfl (Nat.le_refl _)) ?_
  (refine Awp.red (red_ren (τ := ⟨[(0, entAV t), (2, .v (.int .i64 v)), (4, .fp [c.row] 0 0), (12, .os 0 0 0), (13, .v (.int .i64 ((0 : Nat) : Int)))], [(0, .own false 4 [])], 1⟩) [(0, 0)] rfl ?gts ?ghs) ?gmain; (case gts => (repeat (first | exact tsok_nil | refine p_pure ?_ | refine p_op ?_ | refine p_os ?_ | refine p_eq ?_ ?_))); (case ghs => (repeat (first | exact hsok_nil | refine q_id ?_ | refine q_idx ?_ ?_))))
  refine awp_loop (fun n σ => ∃ i : Nat, i ≤ t.length ∧ n = t.length - i ∧ (True) ∧ σ = ⟨[(0, entAV t), (2, .v (.int .i64 v)), (4, .fp [c.row] 0 0), (12, .os 0 0 (keepE (inP c.path) (t.take i)).length), (13, .v (.int .i64 (i : Int)))], [(0, .own false 4 ((keepE (inP c.path) (t.take i)).map Ent.row))], 1⟩) t.length ⟨0, Nat.zero_le _, rfl, trivial, rfl⟩ ?_
  rintro n σ ⟨i, hi, rfl, -, rfl⟩
  by_cases hlt : i < t.length
  · have hr := getRow (f := Ent.row) hlt
    have hpl := pathErr_small (hgt t[i] (List.getElem_mem _))
    have hii := a_isIn t[i].path c.path (by omega) (by omega)
    have hks := @keepE_succ (inP c.path) t i hlt
    have hkl := keepE_len (inP c.path) t i (by omega)
    have hin : inP c.path t[i] = inB t[i].path c.path := rfl
    rw [hin] at hks
    generalize inB t[i].path c.path = IB at *
    clear hin hst
    generalize hGG : keepE (inP c.path) (t.take i) = G at hks hkl ⊢
    clear hGG
    cases IB with
    | true =>
      rw [if_pos rfl] at hks
      repeat' (first | refine walk ?_ | (first | (refine o_fzl ?_) | (refine o_appo ?_) | (apply to_call Tryz.func58 rfl rfl; intro hIsFn; refine o_callf hIsFn (hii ..) ?_; skip)) | ((first | (apply ops_split_t; rfl; rfl; exact nle rfl) | (apply ops_split_f; rfl; rfl; exact nle rfl) | (apply awp_cond; rfl)); all_goals (intro hc; have hp := hc; first | (simp at hp; done) | ((try simp at hp); first | (exfalso; omega) | skip))) | (apply awp_cond_any; rfl))
      all_goals try (exfalso; omega)
      refine ⟨t.length - (i + 1), _, by omega, red_ren (τ := ⟨[(0, entAV t), (2, .v (.int .i64 v)), (4, .fp [c.row] 0 0), (12, .os 0 0 (keepE (inP c.path) (t.take (i + 1))).length), (13, .v (.int .i64 ((i + 1 : Nat) : Int)))], [(0, .own false 4 ((keepE (inP c.path) (t.take (i + 1))).map Ent.row))], 1⟩) [(0, 0)] rfl ?gts ?ghs, i + 1, by omega, rfl, trivial, rfl⟩; (case gts => (repeat (first | exact tsok_nil | refine p_pure ?_ | refine p_op ?_ | refine p_os ?_ | refine p_eq ?_ ?_)); all_goals (rw [hks])); (case ghs => (repeat (first | exact hsok_nil | refine q_id ?_ | refine q_idx ?_ ?_)); all_goals (rw [hks]))
    | false =>
      rw [if_neg (by decide)] at hks
      repeat' (first | refine walk ?_ | (first | (refine o_fzl ?_) | (refine o_appo ?_) | (apply to_call Tryz.func58 rfl rfl; intro hIsFn; refine o_callf hIsFn (hii ..) ?_; skip)) | ((first | (apply ops_split_t; rfl; rfl; exact nle rfl) | (apply ops_split_f; rfl; rfl; exact nle rfl) | (apply awp_cond; rfl)); all_goals (intro hc; have hp := hc; first | (simp at hp; done) | ((try simp at hp); first | (exfalso; omega) | skip))) | (apply awp_cond_any; rfl))
      all_goals try (exfalso; omega)
      refine ⟨t.length - (i + 1), _, by omega, red_ren (τ := ⟨[(0, entAV t), (2, .v (.int .i64 v)), (4, .fp [c.row] 0 0), (12, .os 0 0 (keepE (inP c.path) (t.take (i + 1))).length), (13, .v (.int .i64 ((i + 1 : Nat) : Int)))], [(0, .own false 4 ((keepE (inP c.path) (t.take (i + 1))).map Ent.row))], 1⟩) [(1, 0)] rfl ?gts ?ghs, i + 1, by omega, rfl, trivial, rfl⟩; (case gts => (repeat (first | exact tsok_nil | refine p_pure ?_ | refine p_op ?_ | refine p_os ?_ | refine p_eq ?_ ?_)); all_goals (rw [hks]; try first | (simp; done) | (rw [List.take_of_length_le (by simp)]; simp; done))); (case ghs => (repeat (first | exact hsok_nil | refine q_id ?_ | refine q_idx ?_ ?_)); all_goals (rw [hks]; try first | (simp; done) | (rw [List.take_of_length_le (by simp)]; simp; done)))
  · obtain rfl : i = t.length := by omega
    rw [List.take_length]
    (repeat' (first | refine walk ?_ | (first | fail) | ((first | (apply ops_split_t; rfl; rfl; exact nle rfl) | (apply ops_split_f; rfl; rfl; exact nle rfl) | (apply awp_cond; rfl)); all_goals (intro hc; have hp := hc; first | (simp at hp; done) | ((try simp at hp); first | (exfalso; omega) | skip))) | (apply awp_cond_any; rfl)))
    (all_goals try (exfalso; omega))
    refine Awp.red (red_freeze 0 rfl (by intro row hrow; obtain ⟨x, _, rfl⟩ := List.mem_map.1 hrow; rfl)) ?_
    refine Awp.red (red_fs 12 0 rfl rfl (by simp)) ?_
    (refine Awp.red (red_pure (ts := [(0, entAV t), (2, .v (.int .i64 v)), (4, .fp [c.row] 0 0), (12, entAV (((goesOf (t.take 0) c v).foldl putT (keepE (inP c.path) t)))), (14, .v (.int .i64 ((0 : Nat) : Int)))]) ?_) ?_; ((repeat (first | exact tsok_nil | refine p_pure ?_ | refine p_eq ?_ ?_))))
    all_goals try (rw [List.drop_zero, List.take_of_length_le (by simp)]; rfl)
    generalize hKK : keepE (inP c.path) t = K at *
    refine awp_loop (fun n σ => ∃ i : Nat, i ≤ t.length ∧ n = t.length - i ∧ (badUpto t c i = false) ∧ σ = ⟨[(0, entAV t), (2, .v (.int .i64 v)), (4, .fp [c.row] 0 0), (12, entAV ((goesOf (t.take i) c v).foldl putT K)), (14, .v (.int .i64 (i : Int)))], [], C.nh⟩) t.length ⟨0, Nat.zero_le _, rfl, rfl, rfl⟩ ?_
    rintro n σ ⟨i, hi, rfl, hsofar, rfl⟩
    by_cases hlt : i < t.length
    · have hr := getRow (f := Ent.row) hlt
      have hxp := hgt t[i] (List.getElem_mem _)
      have hpl := pathErr_small hxp
      have hii := a_isIn t[i].path c.path (by omega) (by omega)
      have hgs := @goes_succ t c v i hlt
      have hbs := @bad_succ t c i hlt
      have hgl : (goesOf (t.take i) c v).length ≤ i := by
        unfold goesOf
        rw [List.length_map]
        have h1 : ((t.take i).filter (inP c.path)).length ≤ (t.take i).length := List.length_filter_le ..
        simp at h1; omega
      have hal := putAll_len (goesOf (t.take i) c v) K
      have har := putAll_rising (l := goesOf (t.take i) c v) hKr
      have hmt : ∀ w, (if t[i].path = c.path then v else t[i].ver) = w → (moveTo c v t[i]).row = [.v (str (c.to ++ t[i].path.drop c.path.length)), .v (.bool t[i].fold), .v (str t[i].text), .v (.int .i64 w)] := fun w hw => by simp [moveTo, Ent.row, hw]
      have hmr := @moved_ref t[i].path c.path c.to
      have hpu := a_putEntryR ((goesOf (t.take i) c v).foldl putT K) (moveTo c v t[i]) (by omega)
      rw [putR_putT har] at hpu
      have hbd : inB t[i].path c.path = true → tooGreat (c.to ++ t[i].path.drop c.path.length) = true → doneE t c v = 2 := fun h3 h4 => by
        have : moveBad t c = true := by
          simp only [moveBad, hk, decide_true, Bool.true_and, List.any_eq_true]
          exact ⟨t[i], List.mem_filter.2 ⟨List.getElem_mem _, h3⟩, h4⟩
        simp [doneE, this]
      rw [hsofar] at hbs
      generalize hIB : inB t[i].path c.path = IB at *
      clear hst hsofar hDD hEE hhit
      cases IB with
      | false =>
        have hgs2 : goesOf (t.take (i + 1)) c v = goesOf (t.take i) c v := by rw [hgs, if_neg (by decide)]
        have hbs2 : badUpto t c (i + 1) = false := hbs
        generalize hOO : (goesOf (t.take i) c v).foldl putT K = O at *
        repeat' (first | refine walk ?_ | (first | (apply to_call Tryz.func58 rfl rfl; intro hIsFn; refine o_callf hIsFn (hii ..) ?_; skip)) | ((first | (apply ops_split_t; rfl; rfl; exact nle rfl) | (apply ops_split_f; rfl; rfl; exact nle rfl) | (apply awp_cond; rfl)); all_goals (intro hc; have hp := hc; first | (simp at hp; done) | ((try simp at hp); first | (exfalso; omega) | skip))) | (apply awp_cond_any; rfl))
        all_goals try (exfalso; omega)
        refine ⟨t.length - (i + 1), _, by omega, red_pure (ts := [(0, entAV t), (2, .v (.int .i64 v)), (4, .fp [c.row] 0 0), (12, entAV ((goesOf (t.take (i + 1)) c v).foldl putT K)), (14, .v (.int .i64 ((i + 1 : Nat) : Int)))]) ?_, i + 1, by omega, rfl, hbs2, rfl⟩; ((repeat (first | exact tsok_nil | refine p_pure ?_ | refine p_eq ?_ ?_)); all_goals (rw [hgs2, hOO]; rfl))
      | true =>
        have hgs2 : goesOf (t.take (i + 1)) c v = goesOf (t.take i) c v ++ [moveTo c v t[i]] := by rw [hgs, if_pos rfl]
        have hO2 : (goesOf (t.take (i + 1)) c v).foldl putT K = putT ((goesOf (t.take i) c v).foldl putT K) (moveTo c v t[i]) := by rw [hgs2, List.foldl_append]; rfl
        rw [← hO2] at hpu
        have hmr := hmr rfl
        have n1 := a_namesOf c.to (by omega)
        have n2 := a_namesOf t[i].path (by omega)
        have n3 := a_namesOf c.path (by omega)
        have m1 := namesOf_many c.to
        have m2 := namesOf_many t[i].path
        have hcount : (namesOf c.path).length ≤ (namesOf t[i].path).length := by
          rw [inB_ref, List.isPrefixOf_iff_prefix] at hIB
          exact hIB.length_le
        have hql : (c.to ++ t[i].path.drop c.path.length).length ≤ 4000000 := by simp; omega
        have hpo := a_pathOf (namesOf c.to ++ (namesOf t[i].path).drop (namesOf c.path).length) (by simp; omega) (by rw [hmr]; omega)
        rw [hmr] at hpo
        have hgg := a_tooGreat (c.to ++ t[i].path.drop c.path.length) (by omega)
        have hbs2 : badUpto t c (i + 1) = tooGreat (c.to ++ t[i].path.drop c.path.length) := by simpa using hbs
        have hbd := hbd rfl
        clear hgs hbs hgs2 hO2 hIB hmr hxp
        generalize hOO2 : (goesOf (t.take (i + 1)) c v).foldl putT K = O2 at *
        generalize (goesOf (t.take i) c v).foldl putT K = O at *
        generalize c.to ++ t[i].path.drop c.path.length = Q at *
        have hrk : ∀ row, row ∈ (namesOf t[i].path).map strRow → row.length = 1 := fun row hr => by obtain ⟨x, _, rfl⟩ := List.mem_map.1 hr; rfl
        generalize hA : namesOf c.to = A at *
        generalize hB : namesOf t[i].path = B at *
        generalize hD : namesOf c.path = D at *
        have hml : (B.map strRow).length = B.length := List.length_map ..
        have hmd : (D.map strRow).length = D.length := List.length_map ..
        have hma : (A.map strRow).length = A.length := List.length_map ..
        have hee : (A ++ B.drop D.length).map strRow = A.map strRow ++ ((B.map strRow).take (B.map strRow).length).drop (D.map strRow).length := by rw [List.take_length, hmd, List.map_append, List.map_drop]
        rw [hee] at hpo
        have hrd : (((B.map strRow).take (B.map strRow).length).drop (D.map strRow).length).all (fun row => row.length == 1 && row.all cellLike) = true := by
          rw [List.all_eq_true]; intro x hx
          obtain ⟨y, _, rfl⟩ := List.mem_map.1 (List.mem_of_mem_take (List.mem_of_mem_drop hx))
          rfl
        have hdl : (((B.map strRow).take (B.map strRow).length).drop (D.map strRow).length).length ≤ 4000000 := by rw [List.length_drop, List.take_length]; omega
        clear hA hB hD hee
        cases hGT : tooGreat Q with
        | true =>
          rw [hbd hGT, if_neg (by decide)]
          rw [hGT] at hgg
          clear hbd hbs2 hpu hmt
          repeat' (first | refine walk ?_ | (first | (refine o_fzl ?_) | (apply to_call Tryz.func58 rfl rfl; intro hIsFn; refine o_callf hIsFn (hii ..) ?_; skip) | (apply to_call Tryz.func61 rfl rfl; intro hIsFn; refine o_callp hIsFn (n1 ..) ?_) | (apply to_call Tryz.func61 rfl rfl; intro hIsFn; refine o_callp hIsFn (n2 ..) ?_) | (apply to_call Tryz.func61 rfl rfl; intro hIsFn; refine o_callp hIsFn (n3 ..) ?_) | (refine o_appn ?_) | (apply opsx_app; apply ex_append_own; (case hx => rfl); (case hT => rfl); (case he => rfl); (case hE => rfl); (case hn => rfl); (case hl => (first | omega | (simp; done) | (simp only [List.length_cons, List.length_nil, List.length_map]; omega) | (simp; omega))); (case hz => rfl); (case hsrc => (first | (first | (apply srcA_sl; rfl; rfl) | (apply srcA_map; rfl; intro a; rfl) | (apply srcA_os; rfl; rfl; first | omega | (simp; done) | (simp; omega); rfl; first | rfl | exact all_map_cells fun _ => rfl)) | (apply srcA_sl; rfl; exact hrd))); (case hsz => (first | omega | (simp; done) | (simp only [List.length_cons, List.length_nil, List.length_map]; omega) | (simp; omega))); (case hlen => (first | omega | (simp; done) | (simp only [List.length_cons, List.length_nil, List.length_map]; omega) | (simp; omega))); (case hmn => exact Nat.ne_of_beq_eq_false rfl); (case hN => exact nle rfl)) | (apply opsx_val; apply ex_slice_sl (ex' := false) (a := (D.map strRow).length) (b := (B.map strRow).length) (m := 0); (case hx => rfl); (case hT => rfl); (case he => rfl); (case hE => rfl); (case ha => exact ⟨_, rfl⟩); (case hb => rfl); (case hm => trivial); (case hab => (first | omega | (simp; done) | (simp only [List.length_cons, List.length_nil, List.length_map]; omega) | (simp; omega))); (case hbl => (first | omega | (simp; done) | (simp only [List.length_cons, List.length_nil, List.length_map]; omega) | (simp; omega))); (case hrk => exact hrk); (case hex => exact nofun); (case hN => exact nle rfl)) | (apply opsx_val; apply ex_call ([2]); exact isFn_of Tryz.func60 rfl rfl; apply hpo; (case hz => refine rzl_cons ?_ rzl_nil; (apply rz_os_eq; (case hn => rfl); (case hl => (simp; done)); (case he => (congr 1; exact List.take_length)); (case hp => (intro row hrow; rcases List.mem_append.1 hrow with hrow | hrow; (obtain ⟨y, _, rfl⟩ := List.mem_map.1 hrow; rfl); (obtain ⟨y, _, rfl⟩ := List.mem_map.1 (List.mem_of_mem_take (List.mem_of_mem_drop hrow)); rfl))))); (case hfl => rfl); (case hN => exact nle rfl)) | (apply to_call Tryz.func62 rfl rfl; intro hIsFn; refine o_callf hIsFn (hgg ..) ?_; skip)) | ((first | (apply ops_split_t; rfl; rfl; exact nle rfl) | (apply ops_split_f; rfl; rfl; exact nle rfl) | (apply awp_cond; rfl)); all_goals (intro hc; have hp := hc; first | (simp at hp; done) | ((try simp at hp); first | (exfalso; omega) | skip))) | (apply awp_cond_any; rfl))
          all_goals try (exfalso; omega)
          all_goals ((refine f_pure (rs := [.tmp 6, .tmp 7]) ?_; (repeat' (first | exact rzl_nil | apply rzl_cons | exact rz_pure rfl | exact rz_ex | exact z_os | apply rz_agg | apply rz_tup | apply rz_clo | apply rz_int | apply rz_bool | apply rz_str | refine z_eq ?_ | apply rz_sl)); all_goals trace_state))
        | false =>
          rw [hGT] at hgg hbs2
          clear hbd
          by_cases hpe2 : t[i].path = c.path
          · rw [hmt v (if_pos hpe2)] at hpu
            clear hmt
            repeat' (first | refine walk ?_ | (first | (refine o_fzl ?_) | (apply to_call Tryz.func58 rfl rfl; intro hIsFn; refine o_callf hIsFn (hii ..) ?_; skip) | (apply to_call Tryz.func61 rfl rfl; intro hIsFn; refine o_callp hIsFn (n1 ..) ?_) | (apply to_call Tryz.func61 rfl rfl; intro hIsFn; refine o_callp hIsFn (n2 ..) ?_) | (apply to_call Tryz.func61 rfl rfl; intro hIsFn; refine o_callp hIsFn (n3 ..) ?_) | (refine o_appn ?_) | (apply opsx_app; apply ex_append_own; (case hx => rfl); (case hT => rfl); (case he => rfl); (case hE => rfl); (case hn => rfl); (case hl => (first | omega | (simp; done) | (simp only [List.length_cons, List.length_nil, List.length_map]; omega) | (simp; omega))); (case hz => rfl); (case hsrc => (first | (first | (apply srcA_sl; rfl; rfl) | (apply srcA_map; rfl; intro a; rfl) | (apply srcA_os; rfl; rfl; first | omega | (simp; done) | (simp; omega); rfl; first | rfl | exact all_map_cells fun _ => rfl)) | (apply srcA_sl; rfl; exact hrd))); (case hsz => (first | omega | (simp; done) | (simp only [List.length_cons, List.length_nil, List.length_map]; omega) | (simp; omega))); (case hlen => (first | omega | (simp; done) | (simp only [List.length_cons, List.length_nil, List.length_map]; omega) | (simp; omega))); (case hmn => exact Nat.ne_of_beq_eq_false rfl); (case hN => exact nle rfl)) | (apply opsx_val; apply ex_slice_sl (ex' := false) (a := (D.map strRow).length) (b := (B.map strRow).length) (m := 0); (case hx => rfl); (case hT => rfl); (case he => rfl); (case hE => rfl); (case ha => exact ⟨_, rfl⟩); (case hb => rfl); (case hm => trivial); (case hab => (first | omega | (simp; done) | (simp only [List.length_cons, List.length_nil, List.length_map]; omega) | (simp; omega))); (case hbl => (first | omega | (simp; done) | (simp only [List.length_cons, List.length_nil, List.length_map]; omega) | (simp; omega))); (case hrk => exact hrk); (case hex => exact nofun); (case hN => exact nle rfl)) | (apply opsx_val; apply ex_call ([2]); exact isFn_of Tryz.func60 rfl rfl; apply hpo; (case hz => refine rzl_cons ?_ rzl_nil; (apply rz_os_eq; (case hn => rfl); (case hl => (simp; done)); (case he => (congr 1; exact List.take_length)); (case hp => (intro row hrow; rcases List.mem_append.1 hrow with hrow | hrow; (obtain ⟨y, _, rfl⟩ := List.mem_map.1 hrow; rfl); (obtain ⟨y, _, rfl⟩ := List.mem_map.1 (List.mem_of_mem_take (List.mem_of_mem_drop hrow)); rfl))))); (case hfl => rfl); (case hN => exact nle rfl)) | (apply to_call Tryz.func62 rfl rfl; intro hIsFn; refine o_callf hIsFn (hgg ..) ?_; skip) | (apply to_call Tryz.func59 rfl rfl; intro hIsFn; refine o_callp hIsFn (hpu ..) ?_)) | ((first | (apply ops_split_t; rfl; rfl; exact nle rfl) | (apply ops_split_f; rfl; rfl; exact nle rfl) | (apply awp_cond; rfl)); all_goals (intro hc; have hp := hc; first | (simp at hp; done) | ((try simp at hp); first | (exfalso; omega) | skip))) | (apply awp_cond_any; rfl))
            all_goals try (exfalso; omega)
            all_goals try (exfalso; contradiction)
            refine ⟨t.length - (i + 1), _, by omega, red_pure (ts := [(0, entAV t), (2, .v (.int .i64 v)), (4, .fp [c.row] 0 0), (12, entAV ((goesOf (t.take (i + 1)) c v).foldl putT K)), (14, .v (.int .i64 ((i + 1 : Nat) : Int)))]) ?_, i + 1, by omega, rfl, hbs2, rfl⟩; ((repeat (first | exact tsok_nil | refine p_pure ?_ | refine p_eq ?_ ?_)); all_goals (rw [hOO2]; rfl))
          · rw [hmt t[i].ver (if_neg hpe2)] at hpu
            clear hmt
            repeat' (first | refine walk ?_ | (first | (refine o_fzl ?_) | (apply to_call Tryz.func58 rfl rfl; intro hIsFn; refine o_callf hIsFn (hii ..) ?_; skip) | (apply to_call Tryz.func61 rfl rfl; intro hIsFn; refine o_callp hIsFn (n1 ..) ?_) | (apply to_call Tryz.func61 rfl rfl; intro hIsFn; refine o_callp hIsFn (n2 ..) ?_) | (apply to_call Tryz.func61 rfl rfl; intro hIsFn; refine o_callp hIsFn (n3 ..) ?_) | (refine o_appn ?_) | (apply opsx_app; apply ex_append_own; (case hx => rfl); (case hT => rfl); (case he => rfl); (case hE => rfl); (case hn => rfl); (case hl => (first | omega | (simp; done) | (simp only [List.length_cons, List.length_nil, List.length_map]; omega) | (simp; omega))); (case hz => rfl); (case hsrc => (first | (first | (apply srcA_sl; rfl; rfl) | (apply srcA_map; rfl; intro a; rfl) | (apply srcA_os; rfl; rfl; first | omega | (simp; done) | (simp; omega); rfl; first | rfl | exact all_map_cells fun _ => rfl)) | (apply srcA_sl; rfl; exact hrd))); (case hsz => (first | omega | (simp; done) | (simp only [List.length_cons, List.length_nil, List.length_map]; omega) | (simp; omega))); (case hlen => (first | omega | (simp; done) | (simp only [List.length_cons, List.length_nil, List.length_map]; omega) | (simp; omega))); (case hmn => exact Nat.ne_of_beq_eq_false rfl); (case hN => exact nle rfl)) | (apply opsx_val; apply ex_slice_sl (ex' := false) (a := (D.map strRow).length) (b := (B.map strRow).length) (m := 0); (case hx => rfl); (case hT => rfl); (case he => rfl); (case hE => rfl); (case ha => exact ⟨_, rfl⟩); (case hb => rfl); (case hm => trivial); (case hab => (first | omega | (simp; done) | (simp only [List.length_cons, List.length_nil, List.length_map]; omega) | (simp; omega))); (case hbl => (first | omega | (simp; done) | (simp only [List.length_cons, List.length_nil, List.length_map]; omega) | (simp; omega))); (case hrk => exact hrk); (case hex => exact nofun); (case hN => exact nle rfl)) | (apply opsx_val; apply ex_call ([2]); exact isFn_of Tryz.func60 rfl rfl; apply hpo; (case hz => refine rzl_cons ?_ rzl_nil; (apply rz_os_eq; (case hn => rfl); (case hl => (simp; done)); (case he => (congr 1; exact List.take_length)); (case hp => (intro row hrow; rcases List.mem_append.1 hrow with hrow | hrow; (obtain ⟨y, _, rfl⟩ := List.mem_map.1 hrow; rfl); (obtain ⟨y, _, rfl⟩ := List.mem_map.1 (List.mem_of_mem_take (List.mem_of_mem_drop hrow)); rfl))))); (case hfl => rfl); (case hN => exact nle rfl)) | (apply to_call Tryz.func62 rfl rfl; intro hIsFn; refine o_callf hIsFn (hgg ..) ?_; skip) | (apply to_call Tryz.func59 rfl rfl; intro hIsFn; refine o_callp hIsFn (hpu ..) ?_)) | ((first | (apply ops_split_t; rfl; rfl; exact nle rfl) | (apply ops_split_f; rfl; rfl; exact nle rfl) | (apply awp_cond; rfl)); all_goals (intro hc; have hp := hc; first | (simp at hp; done) | ((try simp at hp); first | (exfalso; omega) | skip))) | (apply awp_cond_any; rfl))
            all_goals try (exfalso; omega)
            all_goals try (exfalso; contradiction)
            refine ⟨t.length - (i + 1), _, by omega, red_pure (ts := [(0, entAV t), (2, .v (.int .i64 v)), (4, .fp [c.row] 0 0), (12, entAV ((goesOf (t.take (i + 1)) c v).foldl putT K)), (14, .v (.int .i64 ((i + 1 : Nat) : Int)))]) ?_, i + 1, by omega, rfl, hbs2, rfl⟩; ((repeat (first | exact tsok_nil | refine p_pure ?_ | refine p_eq ?_ ?_)); all_goals (rw [hOO2]; rfl))
    · obtain rfl : i = t.length := by omega
      have hmb : moveBad t c = false := by
        unfold badUpto at hsofar
        rw [List.take_length] at hsofar
        simp [moveBad, hsofar]
      rw [hEE hmb]
      rw [List.take_length]
      rw [← hDD]
      generalize doneL t c v = L at *
      have hml : (List.map Ent.row L).length = L.length := List.length_map ..
      by_cases hL : 60 < L.length
      · rw [if_pos hL]
        (repeat' (first | refine walk ?_ | (first | fail) | ((first | (apply ops_split_t; rfl; rfl; exact nle rfl) | (apply ops_split_f; rfl; rfl; exact nle rfl) | (apply awp_cond; rfl)); all_goals (intro hc; have hp := hc; first | (simp at hp; done) | ((try simp at hp); first | (exfalso; omega) | skip))) | (apply awp_cond_any; rfl)))
        (all_goals try (exfalso; omega))
        (all_goals ((refine f_pure (rs := [.tmp 6, .tmp 7]) ?_; (repeat' (first | exact rzl_nil | apply rzl_cons | exact rz_pure rfl | exact rz_ex | exact z_os | apply rz_agg | apply rz_tup | apply rz_clo | apply rz_int | apply rz_bool | apply rz_str | refine z_eq ?_ | apply rz_sl)); all_goals trace_state)))
      · rw [if_neg hL]
        (repeat' (first | refine walk ?_ | (first | fail) | ((first | (apply ops_split_t; rfl; rfl; exact nle rfl) | (apply ops_split_f; rfl; rfl; exact nle rfl) | (apply awp_cond; rfl)); all_goals (intro hc; have hp := hc; first | (simp at hp; done) | ((try simp at hp); first | (exfalso; omega) | skip))) | (apply awp_cond_any; rfl)))
        (all_goals try (exfalso; omega))
        (all_goals ((refine f_pure (rs := [.tmp 6, .tmp 7]) ?_; (repeat' (first | exact rzl_nil | apply rzl_cons | exact rz_pure rfl | exact rz_ex | exact z_os | apply rz_agg | apply rz_tup | apply rz_clo | apply rz_int | apply rz_bool | apply rz_str | refine z_eq ?_ | apply rz_sl)); all_goals trace_state)))
end Go.Proofs.YtaoffekhpjgmdaaGreatDoor
