import Derived.Test.YtaoffekhpjgmdaaGreatDoorTuA
/- The reference's trees, 3: ChangeOf: folders and files. -/
set_option linter.unusedSimpArgs false
set_option linter.unnecessarySimpa false
set_option linter.unusedVariables false
set_option maxHeartbeats 1000000
namespace Go.Proofs.YtaoffekhpjgmdaaGreatDoor
open Go.Ab Go.RowKit
set_option maxRecDepth 10000
attribute [local irreducible] Awp Ops OpsX Wanted Red ExOk Go.Ab.Fin ACall Rz RzL RzRows Enters ResOk RenV RenVL ArgV ArgVL

theorem pre_zero {t : List Ent} {c : Chg} (h : preErr t c = 0) : folderErr t (parentOf (goalOf c)) = 0 ∧ isErr t c = 0 ∧ mvErr t c = 0 := by
  unfold preErr at h
  split at h
  · contradiction
  · split at h
    · contradiction
    · exact ⟨by omega, by omega, h⟩
theorem chg_base {c : Chg} (h : chgErr c = 0) : -1 ≤ c.base := by
  have := (chgErr_zero h).2.2.2.2
  unfold chgRest at this
  split at this
  · exact absurd this (by decide)
  · split at this
    · exact absurd this (by decide)
    · split at this
      · exact absurd this (by decide)
      · omega
theorem a_co1 (t : List Ent) (c : Chg) (v : Int) (h60 : t.length ≤ 60) (hs : rising entLt t = true) (hgt : ∀ x, x ∈ t → pathErr x.path = 0) (hcs : c.small) (hk : c.kind = 1) (h0 : chgErr c = 0) (h1 : preErr t c = 0) (h2 : staleErr t c = 0) : AFn C.P 35 [entAV t, .agg c.row, .v (.int .i64 v)] (.tup [entAV (if doneE t c v = 0 then doneL t c v else []), .v (.int .i64 (doneE t c v))]) := by
  obtain ⟨l1, l2, l3⟩ := hcs
  have hform := a_changeForm c ⟨l1, l2, l3⟩
  have hpo1 := a_parentOf c.path (by omega)
  have hpo2 := a_parentOf c.to (by omega)
  have hfo := a_isFolder t (parentOf (goalOf c)) (by omega)
  have hea := a_entryAt t c.path (by omega)
  have heb := a_entryAt t c.to (by omega)
  have hinn := a_isIn c.to c.path (by omega) (by omega)
  have hkk := chgErr_zero h0
  have hbase : -1 ≤ c.base := chg_base h0
  obtain ⟨hz1, hz2, hz3⟩ := pre_zero h1
  have hst : ∀ x, x ∈ t → ¬ c.base = -1 → (decide (c.base < x.ver) && inB x.path c.path) = false := fun x hx hb => by
    unfold staleErr at h2
    by_cases h3 : t.any (newer c) = true
    · rw [if_pos ⟨hb, h3⟩] at h2; exact absurd h2 (by decide)
    · have h4 : t.any (newer c) = false := by simpa using h3
      rw [List.any_eq_false] at h4
      have h5 := h4 x hx
      simpa [newer] using h5
  clear h2
  have hx : hitE t c.path = false := by
    unfold isErr at hz2
    rw [if_pos hk] at hz2
    cases h : hitE t c.path with
    | true => simp [h] at hz2
    | false => rfl
  rw [(hitE_none hx).2] at hea
  have hg0 : goalOf c = c.path := by simp [goalOf, hk]
  rw [hz1, hg0] at hfo
  rw [h0] at hform
  have hput : AFn C.P 59 [entAV t, .agg [.v (str c.path), .v (.bool true), .v (str []), .v (.int .i64 v)]] (entAV (doneL t c v)) := by
    have h := a_putEntryR t ⟨c.path, true, [], v⟩ (by omega)
    rw [putR_putT hs] at h
    have hD : doneL t c v = putT t ⟨c.path, true, [], v⟩ := by simp [doneL, hk]
    rw [hD]; exact h
  have hE : doneE t c v = if 60 < (doneL t c v).length then 2 else 0 := by simp [doneE, moveBad, hk]
  rw [hE]
  have hlen := doneL_len t c v
  generalize doneL t c v = L at *
  by_cases hL : 60 < L.length
  · rw [if_pos hL]
    refine acall_intro Tryz.func35 rfl _ Tryz.ntmps35 (Nat.le_of_ble_eq_true rfl) _ Tryz.results35 0 rfl rfl ?_
    repeat' (first | refine walk ?_ | (first | (apply to_call Tryz.func57 rfl rfl; intro hIsFn; refine o_callf hIsFn (hform ..) ?_; skip) | (apply to_call Tryz.func40 rfl rfl; intro hIsFn; refine o_callf hIsFn (hpo1 ..) ?_; skip) | (apply to_call Tryz.func40 rfl rfl; intro hIsFn; refine o_callf hIsFn (hpo2 ..) ?_; skip) | (apply to_call Tryz.func39 rfl rfl; intro hIsFn; refine o_callp hIsFn (hfo ..) ?_) | (apply to_call Tryz.func54 rfl rfl; intro hIsFn; refine o_callp hIsFn (hea ..) ?_) | (apply to_call Tryz.func54 rfl rfl; intro hIsFn; refine o_callp hIsFn (heb ..) ?_) | (apply to_call Tryz.func58 rfl rfl; intro hIsFn; refine o_callf hIsFn (hinn ..) ?_; skip)) | ((first | (apply ops_split_t; rfl; rfl; exact nle rfl) | (apply ops_split_f; rfl; rfl; exact nle rfl) | (apply awp_cond; rfl)); all_goals (intro hc; have hp := hc; first | (simp at hp; done) | ((try simp at hp); first | (exfalso; omega) | skip))) | (apply awp_cond_any; rfl))
    all_goals try (exfalso; omega)
    (refine Awp.red (red_freeze 0 rfl ?_) ?_; (intro row hrow; obtain rfl := List.mem_singleton.1 hrow; rfl); refine Awp.red (red_fp 4 0 rfl rfl (Nat.le_of_ble_eq_true rfl)) ?_)
    (refine Awp.red (red_pure (ts := [(0, entAV t), (2, .v (.int .i64 v)), (4, .fp [c.row] 0 0), (11, .v (.int .i64 ((0 : Nat) : Int)))]) ?_) ?_; ((repeat (first | exact tsok_nil | refine p_pure ?_ | refine p_eq ?_ ?_))))
    refine awp_loop (fun n σ => ∃ i : Nat, i ≤ t.length ∧ n = t.length - i ∧ (True) ∧ σ = ⟨[(0, entAV t), (2, .v (.int .i64 v)), (4, .fp [c.row] 0 0), (11, .v (.int .i64 (i : Int)))], [], C.nh⟩) t.length ⟨0, Nat.zero_le _, rfl, trivial, rfl⟩ ?_
    rintro n σ ⟨i, hi, rfl, -, rfl⟩
    by_cases hlt : i < t.length
    · have hr := getRow (f := Ent.row) hlt
      have hnw := hst t[i] (List.getElem_mem _)
      have hpl := pathErr_small (hgt t[i] (List.getElem_mem _))
      have hii := a_isIn t[i].path c.path (by omega) (by omega)
      generalize inB t[i].path c.path = IB at *
      repeat' (first | refine walk ?_ | (first | (apply to_call Tryz.func58 rfl rfl; intro hIsFn; refine o_callf hIsFn (hii ..) ?_; skip)) | ((first | (apply ops_split_t; rfl; rfl; exact nle rfl) | (apply ops_split_f; rfl; rfl; exact nle rfl) | (apply awp_cond; rfl)); all_goals (intro hc; have hp := hc; first | (simp at hp; done) | ((try simp at hp); first | (exfalso; omega) | skip))) | (apply awp_cond_any; rfl))
      all_goals try (exfalso; omega)
      all_goals try (
        have h9 := hnw (by omega)
        rw [Bool.and_eq_false_iff] at h9
        rcases h9 with h9 | h9
        · exact absurd (h9.symm.trans (by assumption)) Bool.false_ne_true
        · exact absurd (h9.symm.trans (by assumption)) Bool.false_ne_true)
      all_goals first
        | (refine ⟨t.length - (i + 1), _, by omega, red_pure (ts := [(0, entAV t), (2, .v (.int .i64 v)), (4, .fp [c.row] 0 0), (11, .v (.int .i64 ((i + 1 : Nat) : Int)))]) ?_, i + 1, by omega, rfl, trivial, rfl⟩; ((repeat (first | exact tsok_nil | refine p_pure ?_ | refine p_eq ?_ ?_))))
        | ((repeat' (first | refine walk ?_ | (first | (apply to_call Tryz.func59 rfl rfl; intro hIsFn; refine o_callp hIsFn (hput ..) ?_)) | ((first | (apply ops_split_t; rfl; rfl; exact nle rfl) | (apply ops_split_f; rfl; rfl; exact nle rfl) | (apply awp_cond; rfl)); all_goals (intro hc; have hp := hc; first | (simp at hp; done) | ((try simp at hp); first | (exfalso; omega) | skip))) | (apply awp_cond_any; rfl))); (all_goals try (exfalso; omega)); (all_goals ((refine f_pure (rs := [.tmp 6, .tmp 7]) ?_; (repeat' (first | exact rzl_nil | apply rzl_cons | exact rz_pure rfl | exact rz_ex | exact z_os | apply rz_agg | apply rz_tup | apply rz_clo | apply rz_int | apply rz_bool | apply rz_str | refine z_eq ?_ | apply rz_sl)); all_goals trace_state))))
    · obtain rfl : i = t.length := by omega
      (repeat' (first | refine walk ?_ | (first | (apply to_call Tryz.func59 rfl rfl; intro hIsFn; refine o_callp hIsFn (hput ..) ?_)) | ((first | (apply ops_split_t; rfl; rfl; exact nle rfl) | (apply ops_split_f; rfl; rfl; exact nle rfl) | (apply awp_cond; rfl)); all_goals (intro hc; have hp := hc; first | (simp at hp; done) | ((try simp at hp); first | (exfalso; omega) | skip))) | (apply awp_cond_any; rfl))); (all_goals try (exfalso; omega)); (all_goals ((refine f_pure (rs := [.tmp 6, .tmp 7]) ?_; (repeat' (first | exact rzl_nil | apply rzl_cons | exact rz_pure rfl | exact rz_ex | exact z_os | apply rz_agg | apply rz_tup | apply rz_clo | apply rz_int | apply rz_bool | apply rz_str | refine z_eq ?_ | apply rz_sl)); all_goals trace_state)))
  · rw [if_neg hL]
    refine acall_intro Tryz.func35 rfl _ Tryz.ntmps35 (Nat.le_of_ble_eq_true rfl) _ Tryz.results35 0 rfl rfl ?_
    repeat' (first | refine walk ?_ | (first | (apply to_call Tryz.func57 rfl rfl; intro hIsFn; refine o_callf hIsFn (hform ..) ?_; skip) | (apply to_call Tryz.func40 rfl rfl; intro hIsFn; refine o_callf hIsFn (hpo1 ..) ?_; skip) | (apply to_call Tryz.func40 rfl rfl; intro hIsFn; refine o_callf hIsFn (hpo2 ..) ?_; skip) | (apply to_call Tryz.func39 rfl rfl; intro hIsFn; refine o_callp hIsFn (hfo ..) ?_) | (apply to_call Tryz.func54 rfl rfl; intro hIsFn; refine o_callp hIsFn (hea ..) ?_) | (apply to_call Tryz.func54 rfl rfl; intro hIsFn; refine o_callp hIsFn (heb ..) ?_) | (apply to_call Tryz.func58 rfl rfl; intro hIsFn; refine o_callf hIsFn (hinn ..) ?_; skip)) | ((first | (apply ops_split_t; rfl; rfl; exact nle rfl) | (apply ops_split_f; rfl; rfl; exact nle rfl) | (apply awp_cond; rfl)); all_goals (intro hc; have hp := hc; first | (simp at hp; done) | ((try simp at hp); first | (exfalso; omega) | skip))) | (apply awp_cond_any; rfl))
    all_goals try (exfalso; omega)
    (refine Awp.red (red_freeze 0 rfl ?_) ?_; (intro row hrow; obtain rfl := List.mem_singleton.1 hrow; rfl); refine Awp.red (red_fp 4 0 rfl rfl (Nat.le_of_ble_eq_true rfl)) ?_)
    (refine Awp.red (red_pure (ts := [(0, entAV t), (2, .v (.int .i64 v)), (4, .fp [c.row] 0 0), (11, .v (.int .i64 ((0 : Nat) : Int)))]) ?_) ?_; ((repeat (first | exact tsok_nil | refine p_pure ?_ | refine p_eq ?_ ?_))))
    refine awp_loop (fun n σ => ∃ i : Nat, i ≤ t.length ∧ n = t.length - i ∧ (True) ∧ σ = ⟨[(0, entAV t), (2, .v (.int .i64 v)), (4, .fp [c.row] 0 0), (11, .v (.int .i64 (i : Int)))], [], C.nh⟩) t.length ⟨0, Nat.zero_le _, rfl, trivial, rfl⟩ ?_
    rintro n σ ⟨i, hi, rfl, -, rfl⟩
    by_cases hlt : i < t.length
    · have hr := getRow (f := Ent.row) hlt
      have hnw := hst t[i] (List.getElem_mem _)
      have hpl := pathErr_small (hgt t[i] (List.getElem_mem _))
      have hii := a_isIn t[i].path c.path (by omega) (by omega)
      generalize inB t[i].path c.path = IB at *
      repeat' (first | refine walk ?_ | (first | (apply to_call Tryz.func58 rfl rfl; intro hIsFn; refine o_callf hIsFn (hii ..) ?_; skip)) | ((first | (apply ops_split_t; rfl; rfl; exact nle rfl) | (apply ops_split_f; rfl; rfl; exact nle rfl) | (apply awp_cond; rfl)); all_goals (intro hc; have hp := hc; first | (simp at hp; done) | ((try simp at hp); first | (exfalso; omega) | skip))) | (apply awp_cond_any; rfl))
      all_goals try (exfalso; omega)
      all_goals try (
        have h9 := hnw (by omega)
        rw [Bool.and_eq_false_iff] at h9
        rcases h9 with h9 | h9
        · exact absurd (h9.symm.trans (by assumption)) Bool.false_ne_true
        · exact absurd (h9.symm.trans (by assumption)) Bool.false_ne_true)
      all_goals first
        | (refine ⟨t.length - (i + 1), _, by omega, red_pure (ts := [(0, entAV t), (2, .v (.int .i64 v)), (4, .fp [c.row] 0 0), (11, .v (.int .i64 ((i + 1 : Nat) : Int)))]) ?_, i + 1, by omega, rfl, trivial, rfl⟩; ((repeat (first | exact tsok_nil | refine p_pure ?_ | refine p_eq ?_ ?_))))
        | ((repeat' (first | refine walk ?_ | (first | (apply to_call Tryz.func59 rfl rfl; intro hIsFn; refine o_callp hIsFn (hput ..) ?_)) | ((first | (apply ops_split_t; rfl; rfl; exact nle rfl) | (apply ops_split_f; rfl; rfl; exact nle rfl) | (apply awp_cond; rfl)); all_goals (intro hc; have hp := hc; first | (simp at hp; done) | ((try simp at hp); first | (exfalso; omega) | skip))) | (apply awp_cond_any; rfl))); (all_goals try (exfalso; omega)); (all_goals ((refine f_pure (rs := [.tmp 6, .tmp 7]) ?_; (repeat' (first | exact rzl_nil | apply rzl_cons | exact rz_pure rfl | exact rz_ex | exact z_os | apply rz_agg | apply rz_tup | apply rz_clo | apply rz_int | apply rz_bool | apply rz_str | refine z_eq ?_ | apply rz_sl)); all_goals trace_state))))
    · obtain rfl : i = t.length := by omega
      (repeat' (first | refine walk ?_ | (first | (apply to_call Tryz.func59 rfl rfl; intro hIsFn; refine o_callp hIsFn (hput ..) ?_)) | ((first | (apply ops_split_t; rfl; rfl; exact nle rfl) | (apply ops_split_f; rfl; rfl; exact nle rfl) | (apply awp_cond; rfl)); all_goals (intro hc; have hp := hc; first | (simp at hp; done) | ((try simp at hp); first | (exfalso; omega) | skip))) | (apply awp_cond_any; rfl))); (all_goals try (exfalso; omega)); (all_goals ((refine f_pure (rs := [.tmp 6, .tmp 7]) ?_; (repeat' (first | exact rzl_nil | apply rzl_cons | exact rz_pure rfl | exact rz_ex | exact z_os | apply rz_agg | apply rz_tup | apply rz_clo | apply rz_int | apply rz_bool | apply rz_str | refine z_eq ?_ | apply rz_sl)); all_goals trace_state)))
theorem a_co2t (t : List Ent) (c : Chg) (v : Int) (h60 : t.length ≤ 60) (hs : rising entLt t = true) (hgt : ∀ x, x ∈ t → pathErr x.path = 0) (hcs : c.small) (hk : c.kind = 2) (hh : hitE t c.path = true) (h0 : chgErr c = 0) (h1 : preErr t c = 0) (h2 : staleErr t c = 0) : AFn C.P 35 [entAV t, .agg c.row, .v (.int .i64 v)] (.tup [entAV (if doneE t c v = 0 then doneL t c v else []), .v (.int .i64 (doneE t c v))]) := by
  obtain ⟨l1, l2, l3⟩ := hcs
  have hform := a_changeForm c ⟨l1, l2, l3⟩
  have hpo1 := a_parentOf c.path (by omega)
  have hpo2 := a_parentOf c.to (by omega)
  have hfo := a_isFolder t (parentOf (goalOf c)) (by omega)
  have hea := a_entryAt t c.path (by omega)
  have heb := a_entryAt t c.to (by omega)
  have hinn := a_isIn c.to c.path (by omega) (by omega)
  have hkk := chgErr_zero h0
  have hbase : -1 ≤ c.base := chg_base h0
  obtain ⟨hz1, hz2, hz3⟩ := pre_zero h1
  have hst : ∀ x, x ∈ t → ¬ c.base = -1 → (decide (c.base < x.ver) && inB x.path c.path) = false := fun x hx hb => by
    unfold staleErr at h2
    by_cases h3 : t.any (newer c) = true
    · rw [if_pos ⟨hb, h3⟩] at h2; exact absurd h2 (by decide)
    · have h4 : t.any (newer c) = false := by simpa using h3
      rw [List.any_eq_false] at h4
      have h5 := h4 x hx
      simpa [newer] using h5
  clear h2
  have hk1 : ¬ c.kind = 1 := by omega
  have hfa : foldAt t c.path = false := by
    unfold isErr at hz2
    rw [if_neg hk1, if_pos hk] at hz2
    cases h : foldAt t c.path with
    | true => simp [h] at hz2
    | false => rfl
  have hg0 : goalOf c = c.path := by simp [goalOf, hk]
  rw [hz1, hg0] at hfo
  rw [h0] at hform
  have hput : AFn C.P 59 [entAV t, .agg [.v (str c.path), .v (.bool false), .v (str c.text), .v (.int .i64 v)]] (entAV (doneL t c v)) := by
    have h := a_putEntryR t ⟨c.path, false, c.text, v⟩ (by omega)
    rw [putR_putT hs] at h
    have hD : doneL t c v = putT t ⟨c.path, false, c.text, v⟩ := by simp [doneL, hk]
    rw [hD]; exact h
  have hE : doneE t c v = if 60 < (doneL t c v).length then 2 else 0 := by simp [doneE, moveBad, hk]
  rw [hE]
  have hlen := doneL_len t c v
  generalize doneL t c v = L at *
  obtain ⟨hkk2, _, hfi, hix⟩ := hitE_at hs hh
  have hrk := getRow (f := Ent.row) hkk2
  have hfold : t[posE t c.path].fold = false := by unfold foldAt at hfa; rw [hfi] at hfa; exact hfa
  rw [hix] at hea
  generalize posE t c.path = k at *
  by_cases hL : 60 < L.length
  · rw [if_pos hL]
    refine acall_intro Tryz.func35 rfl _ Tryz.ntmps35 (Nat.le_of_ble_eq_true rfl) _ Tryz.results35 0 rfl rfl ?_
    repeat' (first | refine walk ?_ | (first | (apply to_call Tryz.func57 rfl rfl; intro hIsFn; refine o_callf hIsFn (hform ..) ?_; skip) | (apply to_call Tryz.func40 rfl rfl; intro hIsFn; refine o_callf hIsFn (hpo1 ..) ?_; skip) | (apply to_call Tryz.func40 rfl rfl; intro hIsFn; refine o_callf hIsFn (hpo2 ..) ?_; skip) | (apply to_call Tryz.func39 rfl rfl; intro hIsFn; refine o_callp hIsFn (hfo ..) ?_) | (apply to_call Tryz.func54 rfl rfl; intro hIsFn; refine o_callp hIsFn (hea ..) ?_) | (apply to_call Tryz.func54 rfl rfl; intro hIsFn; refine o_callp hIsFn (heb ..) ?_) | (apply to_call Tryz.func58 rfl rfl; intro hIsFn; refine o_callf hIsFn (hinn ..) ?_; skip)) | ((first | (apply ops_split_t; rfl; rfl; exact nle rfl) | (apply ops_split_f; rfl; rfl; exact nle rfl) | (apply awp_cond; rfl)); all_goals (intro hc; have hp := hc; first | (simp at hp; done) | ((try simp at hp); first | (exfalso; omega) | skip))) | (apply awp_cond_any; rfl))
    all_goals try (exfalso; omega)
    (refine Awp.red (red_freeze 0 rfl ?_) ?_; (intro row hrow; obtain rfl := List.mem_singleton.1 hrow; rfl); refine Awp.red (red_fp 4 0 rfl rfl (Nat.le_of_ble_eq_true rfl)) ?_)
    (refine Awp.red (red_pure (ts := [(0, entAV t), (2, .v (.int .i64 v)), (4, .fp [c.row] 0 0), (11, .v (.int .i64 ((0 : Nat) : Int)))]) ?_) ?_; ((repeat (first | exact tsok_nil | refine p_pure ?_ | refine p_eq ?_ ?_))))
    refine awp_loop (fun n σ => ∃ i : Nat, i ≤ t.length ∧ n = t.length - i ∧ (True) ∧ σ = ⟨[(0, entAV t), (2, .v (.int .i64 v)), (4, .fp [c.row] 0 0), (11, .v (.int .i64 (i : Int)))], [], C.nh⟩) t.length ⟨0, Nat.zero_le _, rfl, trivial, rfl⟩ ?_
    rintro n σ ⟨i, hi, rfl, -, rfl⟩
    by_cases hlt : i < t.length
    · have hr := getRow (f := Ent.row) hlt
      have hnw := hst t[i] (List.getElem_mem _)
      have hpl := pathErr_small (hgt t[i] (List.getElem_mem _))
      have hii := a_isIn t[i].path c.path (by omega) (by omega)
      generalize inB t[i].path c.path = IB at *
      repeat' (first | refine walk ?_ | (first | (apply to_call Tryz.func58 rfl rfl; intro hIsFn; refine o_callf hIsFn (hii ..) ?_; skip)) | ((first | (apply ops_split_t; rfl; rfl; exact nle rfl) | (apply ops_split_f; rfl; rfl; exact nle rfl) | (apply awp_cond; rfl)); all_goals (intro hc; have hp := hc; first | (simp at hp; done) | ((try simp at hp); first | (exfalso; omega) | skip))) | (apply awp_cond_any; rfl))
      all_goals try (exfalso; omega)
      all_goals try (
        have h9 := hnw (by omega)
        rw [Bool.and_eq_false_iff] at h9
        rcases h9 with h9 | h9
        · exact absurd (h9.symm.trans (by assumption)) Bool.false_ne_true
        · exact absurd (h9.symm.trans (by assumption)) Bool.false_ne_true)
      all_goals first
        | (refine ⟨t.length - (i + 1), _, by omega, red_pure (ts := [(0, entAV t), (2, .v (.int .i64 v)), (4, .fp [c.row] 0 0), (11, .v (.int .i64 ((i + 1 : Nat) : Int)))]) ?_, i + 1, by omega, rfl, trivial, rfl⟩; ((repeat (first | exact tsok_nil | refine p_pure ?_ | refine p_eq ?_ ?_))))
        | ((repeat' (first | refine walk ?_ | (first | (apply to_call Tryz.func59 rfl rfl; intro hIsFn; refine o_callp hIsFn (hput ..) ?_)) | ((first | (apply ops_split_t; rfl; rfl; exact nle rfl) | (apply ops_split_f; rfl; rfl; exact nle rfl) | (apply awp_cond; rfl)); all_goals (intro hc; have hp := hc; first | (simp at hp; done) | ((try simp at hp); first | (exfalso; omega) | skip))) | (apply awp_cond_any; rfl))); (all_goals try (exfalso; omega)); (all_goals ((refine f_pure (rs := [.tmp 6, .tmp 7]) ?_; (repeat' (first | exact rzl_nil | apply rzl_cons | exact rz_pure rfl | exact rz_ex | exact z_os | apply rz_agg | apply rz_tup | apply rz_clo | apply rz_int | apply rz_bool | apply rz_str | refine z_eq ?_ | apply rz_sl)); all_goals trace_state))))
    · obtain rfl : i = t.length := by omega
      (repeat' (first | refine walk ?_ | (first | (apply to_call Tryz.func59 rfl rfl; intro hIsFn; refine o_callp hIsFn (hput ..) ?_)) | ((first | (apply ops_split_t; rfl; rfl; exact nle rfl) | (apply ops_split_f; rfl; rfl; exact nle rfl) | (apply awp_cond; rfl)); all_goals (intro hc; have hp := hc; first | (simp at hp; done) | ((try simp at hp); first | (exfalso; omega) | skip))) | (apply awp_cond_any; rfl))); (all_goals try (exfalso; omega)); (all_goals ((refine f_pure (rs := [.tmp 6, .tmp 7]) ?_; (repeat' (first | exact rzl_nil | apply rzl_cons | exact rz_pure rfl | exact rz_ex | exact z_os | apply rz_agg | apply rz_tup | apply rz_clo | apply rz_int | apply rz_bool | apply rz_str | refine z_eq ?_ | apply rz_sl)); all_goals trace_state)))
  · rw [if_neg hL]
    refine acall_intro Tryz.func35 rfl _ Tryz.ntmps35 (Nat.le_of_ble_eq_true rfl) _ Tryz.results35 0 rfl rfl ?_
    repeat' (first | refine walk ?_ | (first | (apply to_call Tryz.func57 rfl rfl; intro hIsFn; refine o_callf hIsFn (hform ..) ?_; skip) | (apply to_call Tryz.func40 rfl rfl; intro hIsFn; refine o_callf hIsFn (hpo1 ..) ?_; skip) | (apply to_call Tryz.func40 rfl rfl; intro hIsFn; refine o_callf hIsFn (hpo2 ..) ?_; skip) | (apply to_call Tryz.func39 rfl rfl; intro hIsFn; refine o_callp hIsFn (hfo ..) ?_) | (apply to_call Tryz.func54 rfl rfl; intro hIsFn; refine o_callp hIsFn (hea ..) ?_) | (apply to_call Tryz.func54 rfl rfl; intro hIsFn; refine o_callp hIsFn (heb ..) ?_) | (apply to_call Tryz.func58 rfl rfl; intro hIsFn; refine o_callf hIsFn (hinn ..) ?_; skip)) | ((first | (apply ops_split_t; rfl; rfl; exact nle rfl) | (apply ops_split_f; rfl; rfl; exact nle rfl) | (apply awp_cond; rfl)); all_goals (intro hc; have hp := hc; first | (simp at hp; done) | ((try simp at hp); first | (exfalso; omega) | skip))) | (apply awp_cond_any; rfl))
    all_goals try (exfalso; omega)
    (refine Awp.red (red_freeze 0 rfl ?_) ?_; (intro row hrow; obtain rfl := List.mem_singleton.1 hrow; rfl); refine Awp.red (red_fp 4 0 rfl rfl (Nat.le_of_ble_eq_true rfl)) ?_)
    (refine Awp.red (red_pure (ts := [(0, entAV t), (2, .v (.int .i64 v)), (4, .fp [c.row] 0 0), (11, .v (.int .i64 ((0 : Nat) : Int)))]) ?_) ?_; ((repeat (first | exact tsok_nil | refine p_pure ?_ | refine p_eq ?_ ?_))))
    refine awp_loop (fun n σ => ∃ i : Nat, i ≤ t.length ∧ n = t.length - i ∧ (True) ∧ σ = ⟨[(0, entAV t), (2, .v (.int .i64 v)), (4, .fp [c.row] 0 0), (11, .v (.int .i64 (i : Int)))], [], C.nh⟩) t.length ⟨0, Nat.zero_le _, rfl, trivial, rfl⟩ ?_
    rintro n σ ⟨i, hi, rfl, -, rfl⟩
    by_cases hlt : i < t.length
    · have hr := getRow (f := Ent.row) hlt
      have hnw := hst t[i] (List.getElem_mem _)
      have hpl := pathErr_small (hgt t[i] (List.getElem_mem _))
      have hii := a_isIn t[i].path c.path (by omega) (by omega)
      generalize inB t[i].path c.path = IB at *
      repeat' (first | refine walk ?_ | (first | (apply to_call Tryz.func58 rfl rfl; intro hIsFn; refine o_callf hIsFn (hii ..) ?_; skip)) | ((first | (apply ops_split_t; rfl; rfl; exact nle rfl) | (apply ops_split_f; rfl; rfl; exact nle rfl) | (apply awp_cond; rfl)); all_goals (intro hc; have hp := hc; first | (simp at hp; done) | ((try simp at hp); first | (exfalso; omega) | skip))) | (apply awp_cond_any; rfl))
      all_goals try (exfalso; omega)
      all_goals try (
        have h9 := hnw (by omega)
        rw [Bool.and_eq_false_iff] at h9
        rcases h9 with h9 | h9
        · exact absurd (h9.symm.trans (by assumption)) Bool.false_ne_true
        · exact absurd (h9.symm.trans (by assumption)) Bool.false_ne_true)
      all_goals first
        | (refine ⟨t.length - (i + 1), _, by omega, red_pure (ts := [(0, entAV t), (2, .v (.int .i64 v)), (4, .fp [c.row] 0 0), (11, .v (.int .i64 ((i + 1 : Nat) : Int)))]) ?_, i + 1, by omega, rfl, trivial, rfl⟩; ((repeat (first | exact tsok_nil | refine p_pure ?_ | refine p_eq ?_ ?_))))
        | ((repeat' (first | refine walk ?_ | (first | (apply to_call Tryz.func59 rfl rfl; intro hIsFn; refine o_callp hIsFn (hput ..) ?_)) | ((first | (apply ops_split_t; rfl; rfl; exact nle rfl) | (apply ops_split_f; rfl; rfl; exact nle rfl) | (apply awp_cond; rfl)); all_goals (intro hc; have hp := hc; first | (simp at hp; done) | ((try simp at hp); first | (exfalso; omega) | skip))) | (apply awp_cond_any; rfl))); (all_goals try (exfalso; omega)); (all_goals ((refine f_pure (rs := [.tmp 6, .tmp 7]) ?_; (repeat' (first | exact rzl_nil | apply rzl_cons | exact rz_pure rfl | exact rz_ex | exact z_os | apply rz_agg | apply rz_tup | apply rz_clo | apply rz_int | apply rz_bool | apply rz_str | refine z_eq ?_ | apply rz_sl)); all_goals trace_state))))
    · obtain rfl : i = t.length := by omega
      (repeat' (first | refine walk ?_ | (first | (apply to_call Tryz.func59 rfl rfl; intro hIsFn; refine o_callp hIsFn (hput ..) ?_)) | ((first | (apply ops_split_t; rfl; rfl; exact nle rfl) | (apply ops_split_f; rfl; rfl; exact nle rfl) | (apply awp_cond; rfl)); all_goals (intro hc; have hp := hc; first | (simp at hp; done) | ((try simp at hp); first | (exfalso; omega) | skip))) | (apply awp_cond_any; rfl))); (all_goals try (exfalso; omega)); (all_goals ((refine f_pure (rs := [.tmp 6, .tmp 7]) ?_; (repeat' (first | exact rzl_nil | apply rzl_cons | exact rz_pure rfl | exact rz_ex | exact z_os | apply rz_agg | apply rz_tup | apply rz_clo | apply rz_int | apply rz_bool | apply rz_str | refine z_eq ?_ | apply rz_sl)); all_goals trace_state)))
theorem a_co2f (t : List Ent) (c : Chg) (v : Int) (h60 : t.length ≤ 60) (hs : rising entLt t = true) (hgt : ∀ x, x ∈ t → pathErr x.path = 0) (hcs : c.small) (hk : c.kind = 2) (hh : hitE t c.path = false) (h0 : chgErr c = 0) (h1 : preErr t c = 0) (h2 : staleErr t c = 0) : AFn C.P 35 [entAV t, .agg c.row, .v (.int .i64 v)] (.tup [entAV (if doneE t c v = 0 then doneL t c v else []), .v (.int .i64 (doneE t c v))]) := by
  obtain ⟨l1, l2, l3⟩ := hcs
  have hform := a_changeForm c ⟨l1, l2, l3⟩
  have hpo1 := a_parentOf c.path (by omega)
  have hpo2 := a_parentOf c.to (by omega)
  have hfo := a_isFolder t (parentOf (goalOf c)) (by omega)
  have hea := a_entryAt t c.path (by omega)
  have heb := a_entryAt t c.to (by omega)
  have hinn := a_isIn c.to c.path (by omega) (by omega)
  have hkk := chgErr_zero h0
  have hbase : -1 ≤ c.base := chg_base h0
  obtain ⟨hz1, hz2, hz3⟩ := pre_zero h1
  have hst : ∀ x, x ∈ t → ¬ c.base = -1 → (decide (c.base < x.ver) && inB x.path c.path) = false := fun x hx hb => by
    unfold staleErr at h2
    by_cases h3 : t.any (newer c) = true
    · rw [if_pos ⟨hb, h3⟩] at h2; exact absurd h2 (by decide)
    · have h4 : t.any (newer c) = false := by simpa using h3
      rw [List.any_eq_false] at h4
      have h5 := h4 x hx
      simpa [newer] using h5
  clear h2
  have hk1 : ¬ c.kind = 1 := by omega
  have hfa : foldAt t c.path = false := by
    unfold isErr at hz2
    rw [if_neg hk1, if_pos hk] at hz2
    cases h : foldAt t c.path with
    | true => simp [h] at hz2
    | false => rfl
  have hg0 : goalOf c = c.path := by simp [goalOf, hk]
  rw [hz1, hg0] at hfo
  rw [h0] at hform
  have hput : AFn C.P 59 [entAV t, .agg [.v (str c.path), .v (.bool false), .v (str c.text), .v (.int .i64 v)]] (entAV (doneL t c v)) := by
    have h := a_putEntryR t ⟨c.path, false, c.text, v⟩ (by omega)
    rw [putR_putT hs] at h
    have hD : doneL t c v = putT t ⟨c.path, false, c.text, v⟩ := by simp [doneL, hk]
    rw [hD]; exact h
  have hE : doneE t c v = if 60 < (doneL t c v).length then 2 else 0 := by simp [doneE, moveBad, hk]
  rw [hE]
  have hlen := doneL_len t c v
  generalize doneL t c v = L at *
  rw [(hitE_none hh).2] at hea
  by_cases hL : 60 < L.length
  · rw [if_pos hL]
    refine acall_intro Tryz.func35 rfl _ Tryz.ntmps35 (Nat.le_of_ble_eq_true rfl) _ Tryz.results35 0 rfl rfl ?_
    repeat' (first | refine walk ?_ | (first | (apply to_call Tryz.func57 rfl rfl; intro hIsFn; refine o_callf hIsFn (hform ..) ?_; skip) | (apply to_call Tryz.func40 rfl rfl; intro hIsFn; refine o_callf hIsFn (hpo1 ..) ?_; skip) | (apply to_call Tryz.func40 rfl rfl; intro hIsFn; refine o_callf hIsFn (hpo2 ..) ?_; skip) | (apply to_call Tryz.func39 rfl rfl; intro hIsFn; refine o_callp hIsFn (hfo ..) ?_) | (apply to_call Tryz.func54 rfl rfl; intro hIsFn; refine o_callp hIsFn (hea ..) ?_) | (apply to_call Tryz.func54 rfl rfl; intro hIsFn; refine o_callp hIsFn (heb ..) ?_) | (apply to_call Tryz.func58 rfl rfl; intro hIsFn; refine o_callf hIsFn (hinn ..) ?_; skip)) | ((first | (apply ops_split_t; rfl; rfl; exact nle rfl) | (apply ops_split_f; rfl; rfl; exact nle rfl) | (apply awp_cond; rfl)); all_goals (intro hc; have hp := hc; first | (simp at hp; done) | ((try simp at hp); first | (exfalso; omega) | skip))) | (apply awp_cond_any; rfl))
    all_goals try (exfalso; omega)
    (refine Awp.red (red_freeze 0 rfl ?_) ?_; (intro row hrow; obtain rfl := List.mem_singleton.1 hrow; rfl); refine Awp.red (red_fp 4 0 rfl rfl (Nat.le_of_ble_eq_true rfl)) ?_)
    (refine Awp.red (red_pure (ts := [(0, entAV t), (2, .v (.int .i64 v)), (4, .fp [c.row] 0 0), (11, .v (.int .i64 ((0 : Nat) : Int)))]) ?_) ?_; ((repeat (first | exact tsok_nil | refine p_pure ?_ | refine p_eq ?_ ?_))))
    refine awp_loop (fun n σ => ∃ i : Nat, i ≤ t.length ∧ n = t.length - i ∧ (True) ∧ σ = ⟨[(0, entAV t), (2, .v (.int .i64 v)), (4, .fp [c.row] 0 0), (11, .v (.int .i64 (i : Int)))], [], C.nh⟩) t.length ⟨0, Nat.zero_le _, rfl, trivial, rfl⟩ ?_
    rintro n σ ⟨i, hi, rfl, -, rfl⟩
    by_cases hlt : i < t.length
    · have hr := getRow (f := Ent.row) hlt
      have hnw := hst t[i] (List.getElem_mem _)
      have hpl := pathErr_small (hgt t[i] (List.getElem_mem _))
      have hii := a_isIn t[i].path c.path (by omega) (by omega)
      generalize inB t[i].path c.path = IB at *
      repeat' (first | refine walk ?_ | (first | (apply to_call Tryz.func58 rfl rfl; intro hIsFn; refine o_callf hIsFn (hii ..) ?_; skip)) | ((first | (apply ops_split_t; rfl; rfl; exact nle rfl) | (apply ops_split_f; rfl; rfl; exact nle rfl) | (apply awp_cond; rfl)); all_goals (intro hc; have hp := hc; first | (simp at hp; done) | ((try simp at hp); first | (exfalso; omega) | skip))) | (apply awp_cond_any; rfl))
      all_goals try (exfalso; omega)
      all_goals try (
        have h9 := hnw (by omega)
        rw [Bool.and_eq_false_iff] at h9
        rcases h9 with h9 | h9
        · exact absurd (h9.symm.trans (by assumption)) Bool.false_ne_true
        · exact absurd (h9.symm.trans (by assumption)) Bool.false_ne_true)
      all_goals first
        | (refine ⟨t.length - (i + 1), _, by omega, red_pure (ts := [(0, entAV t), (2, .v (.int .i64 v)), (4, .fp [c.row] 0 0), (11, .v (.int .i64 ((i + 1 : Nat) : Int)))]) ?_, i + 1, by omega, rfl, trivial, rfl⟩; ((repeat (first | exact tsok_nil | refine p_pure ?_ | refine p_eq ?_ ?_))))
        | ((repeat' (first | refine walk ?_ | (first | (apply to_call Tryz.func59 rfl rfl; intro hIsFn; refine o_callp hIsFn (hput ..) ?_)) | ((first | (apply ops_split_t; rfl; rfl; exact nle rfl) | (apply ops_split_f; rfl; rfl; exact nle rfl) | (apply awp_cond; rfl)); all_goals (intro hc; have hp := hc; first | (simp at hp; done) | ((try simp at hp); first | (exfalso; omega) | skip))) | (apply awp_cond_any; rfl))); (all_goals try (exfalso; omega)); (all_goals ((refine f_pure (rs := [.tmp 6, .tmp 7]) ?_; (repeat' (first | exact rzl_nil | apply rzl_cons | exact rz_pure rfl | exact rz_ex | exact z_os | apply rz_agg | apply rz_tup | apply rz_clo | apply rz_int | apply rz_bool | apply rz_str | refine z_eq ?_ | apply rz_sl)); all_goals trace_state))))
    · obtain rfl : i = t.length := by omega
      (repeat' (first | refine walk ?_ | (first | (apply to_call Tryz.func59 rfl rfl; intro hIsFn; refine o_callp hIsFn (hput ..) ?_)) | ((first | (apply ops_split_t; rfl; rfl; exact nle rfl) | (apply ops_split_f; rfl; rfl; exact nle rfl) | (apply awp_cond; rfl)); all_goals (intro hc; have hp := hc; first | (simp at hp; done) | ((try simp at hp); first | (exfalso; omega) | skip))) | (apply awp_cond_any; rfl))); (all_goals try (exfalso; omega)); (all_goals ((refine f_pure (rs := [.tmp 6, .tmp 7]) ?_; (repeat' (first | exact rzl_nil | apply rzl_cons | exact rz_pure rfl | exact rz_ex | exact z_os | apply rz_agg | apply rz_tup | apply rz_clo | apply rz_int | apply rz_bool | apply rz_str | refine z_eq ?_ | apply rz_sl)); all_goals trace_state)))
  · rw [if_neg hL]
    refine acall_intro Tryz.func35 rfl _ Tryz.ntmps35 (Nat.le_of_ble_eq_true rfl) _ Tryz.results35 0 rfl rfl ?_
    repeat' (first | refine walk ?_ | (first | (apply to_call Tryz.func57 rfl rfl; intro hIsFn; refine o_callf hIsFn (hform ..) ?_; skip) | (apply to_call Tryz.func40 rfl rfl; intro hIsFn; refine o_callf hIsFn (hpo1 ..) ?_; skip) | (apply to_call Tryz.func40 rfl rfl; intro hIsFn; refine o_callf hIsFn (hpo2 ..) ?_; skip) | (apply to_call Tryz.func39 rfl rfl; intro hIsFn; refine o_callp hIsFn (hfo ..) ?_) | (apply to_call Tryz.func54 rfl rfl; intro hIsFn; refine o_callp hIsFn (hea ..) ?_) | (apply to_call Tryz.func54 rfl rfl; intro hIsFn; refine o_callp hIsFn (heb ..) ?_) | (apply to_call Tryz.func58 rfl rfl; intro hIsFn; refine o_callf hIsFn (hinn ..) ?_; skip)) | ((first | (apply ops_split_t; rfl; rfl; exact nle rfl) | (apply ops_split_f; rfl; rfl; exact nle rfl) | (apply awp_cond; rfl)); all_goals (intro hc; have hp := hc; first | (simp at hp; done) | ((try simp at hp); first | (exfalso; omega) | skip))) | (apply awp_cond_any; rfl))
    all_goals try (exfalso; omega)
    (refine Awp.red (red_freeze 0 rfl ?_) ?_; (intro row hrow; obtain rfl := List.mem_singleton.1 hrow; rfl); refine Awp.red (red_fp 4 0 rfl rfl (Nat.le_of_ble_eq_true rfl)) ?_)
    (refine Awp.red (red_pure (ts := [(0, entAV t), (2, .v (.int .i64 v)), (4, .fp [c.row] 0 0), (11, .v (.int .i64 ((0 : Nat) : Int)))]) ?_) ?_; ((repeat (first | exact tsok_nil | refine p_pure ?_ | refine p_eq ?_ ?_))))
    refine awp_loop (fun n σ => ∃ i : Nat, i ≤ t.length ∧ n = t.length - i ∧ (True) ∧ σ = ⟨[(0, entAV t), (2, .v (.int .i64 v)), (4, .fp [c.row] 0 0), (11, .v (.int .i64 (i : Int)))], [], C.nh⟩) t.length ⟨0, Nat.zero_le _, rfl, trivial, rfl⟩ ?_
    rintro n σ ⟨i, hi, rfl, -, rfl⟩
    by_cases hlt : i < t.length
    · have hr := getRow (f := Ent.row) hlt
      have hnw := hst t[i] (List.getElem_mem _)
      have hpl := pathErr_small (hgt t[i] (List.getElem_mem _))
      have hii := a_isIn t[i].path c.path (by omega) (by omega)
      generalize inB t[i].path c.path = IB at *
      repeat' (first | refine walk ?_ | (first | (apply to_call Tryz.func58 rfl rfl; intro hIsFn; refine o_callf hIsFn (hii ..) ?_; skip)) | ((first | (apply ops_split_t; rfl; rfl; exact nle rfl) | (apply ops_split_f; rfl; rfl; exact nle rfl) | (apply awp_cond; rfl)); all_goals (intro hc; have hp := hc; first | (simp at hp; done) | ((try simp at hp); first | (exfalso; omega) | skip))) | (apply awp_cond_any; rfl))
      all_goals try (exfalso; omega)
      all_goals try (
        have h9 := hnw (by omega)
        rw [Bool.and_eq_false_iff] at h9
        rcases h9 with h9 | h9
        · exact absurd (h9.symm.trans (by assumption)) Bool.false_ne_true
        · exact absurd (h9.symm.trans (by assumption)) Bool.false_ne_true)
      all_goals first
        | (refine ⟨t.length - (i + 1), _, by omega, red_pure (ts := [(0, entAV t), (2, .v (.int .i64 v)), (4, .fp [c.row] 0 0), (11, .v (.int .i64 ((i + 1 : Nat) : Int)))]) ?_, i + 1, by omega, rfl, trivial, rfl⟩; ((repeat (first | exact tsok_nil | refine p_pure ?_ | refine p_eq ?_ ?_))))
        | ((repeat' (first | refine walk ?_ | (first | (apply to_call Tryz.func59 rfl rfl; intro hIsFn; refine o_callp hIsFn (hput ..) ?_)) | ((first | (apply ops_split_t; rfl; rfl; exact nle rfl) | (apply ops_split_f; rfl; rfl; exact nle rfl) | (apply awp_cond; rfl)); all_goals (intro hc; have hp := hc; first | (simp at hp; done) | ((try simp at hp); first | (exfalso; omega) | skip))) | (apply awp_cond_any; rfl))); (all_goals try (exfalso; omega)); (all_goals ((refine f_pure (rs := [.tmp 6, .tmp 7]) ?_; (repeat' (first | exact rzl_nil | apply rzl_cons | exact rz_pure rfl | exact rz_ex | exact z_os | apply rz_agg | apply rz_tup | apply rz_clo | apply rz_int | apply rz_bool | apply rz_str | refine z_eq ?_ | apply rz_sl)); all_goals trace_state))))
    · obtain rfl : i = t.length := by omega
      (repeat' (first | refine walk ?_ | (first | (apply to_call Tryz.func59 rfl rfl; intro hIsFn; refine o_callp hIsFn (hput ..) ?_)) | ((first | (apply ops_split_t; rfl; rfl; exact nle rfl) | (apply ops_split_f; rfl; rfl; exact nle rfl) | (apply awp_cond; rfl)); all_goals (intro hc; have hp := hc; first | (simp at hp; done) | ((try simp at hp); first | (exfalso; omega) | skip))) | (apply awp_cond_any; rfl))); (all_goals try (exfalso; omega)); (all_goals ((refine f_pure (rs := [.tmp 6, .tmp 7]) ?_; (repeat' (first | exact rzl_nil | apply rzl_cons | exact rz_pure rfl | exact rz_ex | exact z_os | apply rz_agg | apply rz_tup | apply rz_clo | apply rz_int | apply rz_bool | apply rz_str | refine z_eq ?_ | apply rz_sl)); all_goals trace_state)))
theorem a_co2 (t : List Ent) (c : Chg) (v : Int) (h60 : t.length ≤ 60) (hs : rising entLt t = true) (hgt : ∀ x, x ∈ t → pathErr x.path = 0) (hcs : c.small) (hk : c.kind = 2) (h0 : chgErr c = 0) (h1 : preErr t c = 0) (h2 : staleErr t c = 0) : AFn C.P 35 [entAV t, .agg c.row, .v (.int .i64 v)] (.tup [entAV (if doneE t c v = 0 then doneL t c v else []), .v (.int .i64 (doneE t c v))]) := by
  cases hh : hitE t c.path with
  | true => exact a_co2t t c v h60 hs hgt hcs hk hh h0 h1 h2
  | false => exact a_co2f t c v h60 hs hgt hcs hk hh h0 h1 h2
end Go.Proofs.YtaoffekhpjgmdaaGreatDoor

/- The reference's trees, 4: ChangeOf: deletions; versions that are too old. -/
set_option linter.unusedSimpArgs false
set_option linter.unnecessarySimpa false
set_option linter.unusedVariables false
set_option maxHeartbeats 1000000
namespace Go.Proofs.YtaoffekhpjgmdaaGreatDoor
open Go.Ab Go.RowKit
set_option maxRecDepth 10000
attribute [local irreducible] Awp Ops OpsX Wanted Red ExOk Go.Ab.Fin ACall Rz RzL RzRows Enters ResOk RenV RenVL ArgV ArgVL

theorem isErr_hit {t : List Ent} {c : Chg} (hk : 3 ≤ c.kind) (h : isErr t c = 0) : hitE t c.path = true := by
  unfold isErr at h
  rw [if_neg (by omega), if_neg (by omega)] at h
  cases hh : hitE t c.path with
  | true => rfl
  | false => simp [hh] at h
theorem a_coS (t : List Ent) (c : Chg) (v : Int) (h60 : t.length ≤ 60) (hs : rising entLt t = true) (hgt : ∀ x, x ∈ t → pathErr x.path = 0) (hcs : c.small) (h0 : chgErr c = 0) (h1 : preErr t c = 0) (h2 : ¬ staleErr t c = 0) : AFn C.P 35 [entAV t, .agg c.row, .v (.int .i64 v)] (.tup [entAV [], .v (.int .i64 8)]) := by
  obtain ⟨l1, l2, l3⟩ := hcs
  have hform := a_changeForm c ⟨l1, l2, l3⟩
  have hpo1 := a_parentOf c.path (by omega)
  have hpo2 := a_parentOf c.to (by omega)
  have hfo := a_isFolder t (parentOf (goalOf c)) (by omega)
  have hea := a_entryAt t c.path (by omega)
  have heb := a_entryAt t c.to (by omega)
  have hinn := a_isIn c.to c.path (by omega) (by omega)
  have hkk := chgErr_zero h0
  have hbase : -1 ≤ c.base := chg_base h0
  obtain ⟨hz1, hz2, hz3⟩ := pre_zero h1
  have hst : ¬ c.base = -1 ∧ t.any (newer c) = true := by
    unfold staleErr at h2
    split at h2
    · assumption
    · exact absurd rfl h2
  obtain ⟨hst1, hst2⟩ := hst
  clear h2
  have hI : isErr t c = if c.kind = 1 then (if hitE t c.path = true then 6 else 0) else if c.kind = 2 then (if foldAt t c.path = true then 4 else 0) else (if hitE t c.path = true then 0 else 5) := rfl
  have hM : mvErr t c = if c.kind = 3 then (if inB c.to c.path = true then 3 else if hitE t c.to = true then 6 else 0) else 0 := rfl
  rw [hz2] at hI
  rw [hz3] at hM
  replace hI := hI.symm
  replace hM := hM.symm
  rw [h0] at hform
  have hto : (hitE t c.to = true ∧ 0 ≤ idxOf (atP c.to) t) ∨ (hitE t c.to = false ∧ idxOf (atP c.to) t = -1) := by
    cases h : hitE t c.to with
    | true => obtain ⟨hk, _, hfi, hix⟩ := hitE_at hs h; exact .inl ⟨rfl, by rw [hix]; omega⟩
    | false => exact .inr ⟨rfl, (hitE_none h).2⟩
  have hrow : hitE t c.path = true → ∃ hk : posE t c.path < t.length, foldAt t c.path = t[posE t c.path].fold ∧ idxOf (atP c.path) t = posE t c.path := fun h => by
    obtain ⟨hk, _, hfi, hix⟩ := hitE_at hs h
    exact ⟨hk, by unfold foldAt; rw [hfi], hix⟩
  have hnorow : hitE t c.path = false → foldAt t c.path = false ∧ idxOf (atP c.path) t = -1 := fun h => by
    unfold foldAt; rw [(hitE_none h).1]; exact ⟨rfl, (hitE_none h).2⟩
  obtain ⟨kk1, kk2, -⟩ := hkk
  have hg3 : c.kind = 3 → goalOf c = c.to := fun h => by simp [goalOf, h]
  have hg0 : ¬ c.kind = 3 → goalOf c = c.path := fun h => by simp [goalOf, h]
  rw [hz1] at hfo
  clear hz1 hz2 hz3
  generalize hIB : inB c.to c.path = IB at *
  generalize hHT : hitE t c.to = HT at *
  generalize hIT : idxOf (atP c.to) t = IT at *
  clear hIB hHT hIT
  cases hh : hitE t c.path with
  | true =>
    obtain ⟨hk, hfa, hix⟩ := hrow hh
    rw [hix] at hea
    rw [hh, hfa] at hI
    have hrk := getRow (f := Ent.row) hk
    clear hrow hnorow hix hfa
    generalize posE t c.path = k at *
    by_cases k3 : c.kind = 3
    · rw [hg3 k3] at hfo
      clear hg3 hg0
      refine acall_intro Tryz.func35 rfl _ Tryz.ntmps35 (Nat.le_of_ble_eq_true rfl) _ Tryz.results35 0 rfl rfl ?_
      repeat' (first | refine walk ?_ | (first | (apply to_call Tryz.func57 rfl rfl; intro hIsFn; refine o_callf hIsFn (hform ..) ?_; skip) | (apply to_call Tryz.func40 rfl rfl; intro hIsFn; refine o_callf hIsFn (hpo1 ..) ?_; skip) | (apply to_call Tryz.func40 rfl rfl; intro hIsFn; refine o_callf hIsFn (hpo2 ..) ?_; skip) | (apply to_call Tryz.func39 rfl rfl; intro hIsFn; refine o_callp hIsFn (hfo ..) ?_) | (apply to_call Tryz.func54 rfl rfl; intro hIsFn; refine o_callp hIsFn (hea ..) ?_) | (apply to_call Tryz.func54 rfl rfl; intro hIsFn; refine o_callp hIsFn (heb ..) ?_) | (apply to_call Tryz.func58 rfl rfl; intro hIsFn; refine o_callf hIsFn (hinn ..) ?_; skip)) | ((first | (apply ops_split_t; rfl; rfl; exact nle rfl) | (apply ops_split_f; rfl; rfl; exact nle rfl) | (apply awp_cond; rfl)); all_goals (intro hc; have hp := hc; first | (simp at hp; done) | ((try simp at hp); first | (exfalso; omega) | skip))) | (apply awp_cond_any; rfl))
      all_goals try (exfalso; omega)
      all_goals try (exfalso; clear hst2 hea heb hfo hform hinn hpo1 hpo2; simp_all; done)
      all_goals (
        (refine Awp.red (red_freeze 0 rfl ?_) ?_; (intro row hrow; obtain rfl := List.mem_singleton.1 hrow; rfl); refine Awp.red (red_fp 4 0 rfl rfl (Nat.le_of_ble_eq_true rfl)) ?_)
        (refine Awp.red (red_pure (ts := [(0, entAV t), (2, .v (.int .i64 v)), (4, .fp [c.row] 0 0), (11, .v (.int .i64 ((0 : Nat) : Int)))]) ?_) ?_; ((repeat (first | exact tsok_nil | refine p_pure ?_ | refine p_eq ?_ ?_))))
        refine awp_loop (fun n σ => ∃ i : Nat, i ≤ t.length ∧ n = t.length - i ∧ (∀ x, x ∈ t.take i → newer c x = false) ∧ σ = ⟨[(0, entAV t), (2, .v (.int .i64 v)), (4, .fp [c.row] 0 0), (11, .v (.int .i64 (i : Int)))], [], C.nh⟩) t.length ⟨0, Nat.zero_le _, rfl, (by simp), rfl⟩ ?_
        rintro n σ ⟨i, hi, rfl, hsofar, rfl⟩
        by_cases hlt : i < t.length
        · have hr := getRow (f := Ent.row) hlt
          have hnx := mem_take_succ (p := fun x => newer c x = false) hlt hsofar
          have hnw : newer c t[i] = (decide (c.base < t[i].ver) && inB t[i].path c.path) := rfl
          have hpl := pathErr_small (hgt t[i] (List.getElem_mem _))
          have hii := a_isIn t[i].path c.path (by omega) (by omega)
          generalize inB t[i].path c.path = IB at *
          generalize newer c t[i] = NW at *
          clear hst2 hsofar
          repeat' (first | refine walk ?_ | (first | (apply to_call Tryz.func58 rfl rfl; intro hIsFn; refine o_callf hIsFn (hii ..) ?_; skip)) | ((first | (apply ops_split_t; rfl; rfl; exact nle rfl) | (apply ops_split_f; rfl; rfl; exact nle rfl) | (apply awp_cond; rfl)); all_goals (intro hc; have hp := hc; first | (simp at hp; done) | ((try simp at hp); first | (exfalso; omega) | skip))) | (apply awp_cond_any; rfl))
          all_goals try (exfalso; omega)
          all_goals first
            | ((refine f_pure (rs := [.tmp 6, .tmp 7]) ?_; (repeat' (first | exact rzl_nil | apply rzl_cons | exact rz_pure rfl | exact rz_ex | exact z_os | apply rz_agg | apply rz_tup | apply rz_clo | apply rz_int | apply rz_bool | apply rz_str | refine z_eq ?_ | apply rz_sl)); all_goals trace_state))
            | (refine ⟨t.length - (i + 1), _, by omega, red_pure (ts := [(0, entAV t), (2, .v (.int .i64 v)), (4, .fp [c.row] 0 0), (11, .v (.int .i64 ((i + 1 : Nat) : Int)))]) ?_, i + 1, by omega, rfl, (hnx (by rw [hnw]; simp_all)), rfl⟩; ((repeat (first | exact tsok_nil | refine p_pure ?_ | refine p_eq ?_ ?_))))
        · exfalso
          obtain rfl : i = t.length := by omega
          rw [List.take_length] at hsofar
          obtain ⟨x, hx, hxn⟩ := List.any_eq_true.1 hst2
          rw [hsofar x hx] at hxn; cases hxn)
    · rw [hg0 k3] at hfo
      clear hg3 hg0
      refine acall_intro Tryz.func35 rfl _ Tryz.ntmps35 (Nat.le_of_ble_eq_true rfl) _ Tryz.results35 0 rfl rfl ?_
      repeat' (first | refine walk ?_ | (first | (apply to_call Tryz.func57 rfl rfl; intro hIsFn; refine o_callf hIsFn (hform ..) ?_; skip) | (apply to_call Tryz.func40 rfl rfl; intro hIsFn; refine o_callf hIsFn (hpo1 ..) ?_; skip) | (apply to_call Tryz.func40 rfl rfl; intro hIsFn; refine o_callf hIsFn (hpo2 ..) ?_; skip) | (apply to_call Tryz.func39 rfl rfl; intro hIsFn; refine o_callp hIsFn (hfo ..) ?_) | (apply to_call Tryz.func54 rfl rfl; intro hIsFn; refine o_callp hIsFn (hea ..) ?_) | (apply to_call Tryz.func54 rfl rfl; intro hIsFn; refine o_callp hIsFn (heb ..) ?_) | (apply to_call Tryz.func58 rfl rfl; intro hIsFn; refine o_callf hIsFn (hinn ..) ?_; skip)) | ((first | (apply ops_split_t; rfl; rfl; exact nle rfl) | (apply ops_split_f; rfl; rfl; exact nle rfl) | (apply awp_cond; rfl)); all_goals (intro hc; have hp := hc; first | (simp at hp; done) | ((try simp at hp); first | (exfalso; omega) | skip))) | (apply awp_cond_any; rfl))
      all_goals try (exfalso; omega)
      all_goals try (exfalso; clear hst2 hea heb hfo hform hinn hpo1 hpo2; simp_all; done)
      all_goals (
        (refine Awp.red (red_freeze 0 rfl ?_) ?_; (intro row hrow; obtain rfl := List.mem_singleton.1 hrow; rfl); refine Awp.red (red_fp 4 0 rfl rfl (Nat.le_of_ble_eq_true rfl)) ?_)
        (refine Awp.red (red_pure (ts := [(0, entAV t), (2, .v (.int .i64 v)), (4, .fp [c.row] 0 0), (11, .v (.int .i64 ((0 : Nat) : Int)))]) ?_) ?_; ((repeat (first | exact tsok_nil | refine p_pure ?_ | refine p_eq ?_ ?_))))
        refine awp_loop (fun n σ => ∃ i : Nat, i ≤ t.length ∧ n = t.length - i ∧ (∀ x, x ∈ t.take i → newer c x = false) ∧ σ = ⟨[(0, entAV t), (2, .v (.int .i64 v)), (4, .fp [c.row] 0 0), (11, .v (.int .i64 (i : Int)))], [], C.nh⟩) t.length ⟨0, Nat.zero_le _, rfl, (by simp), rfl⟩ ?_
        rintro n σ ⟨i, hi, rfl, hsofar, rfl⟩
        by_cases hlt : i < t.length
        · have hr := getRow (f := Ent.row) hlt
          have hnx := mem_take_succ (p := fun x => newer c x = false) hlt hsofar
          have hnw : newer c t[i] = (decide (c.base < t[i].ver) && inB t[i].path c.path) := rfl
          have hpl := pathErr_small (hgt t[i] (List.getElem_mem _))
          have hii := a_isIn t[i].path c.path (by omega) (by omega)
          generalize inB t[i].path c.path = IB at *
          generalize newer c t[i] = NW at *
          clear hst2 hsofar
          repeat' (first | refine walk ?_ | (first | (apply to_call Tryz.func58 rfl rfl; intro hIsFn; refine o_callf hIsFn (hii ..) ?_; skip)) | ((first | (apply ops_split_t; rfl; rfl; exact nle rfl) | (apply ops_split_f; rfl; rfl; exact nle rfl) | (apply awp_cond; rfl)); all_goals (intro hc; have hp := hc; first | (simp at hp; done) | ((try simp at hp); first | (exfalso; omega) | skip))) | (apply awp_cond_any; rfl))
          all_goals try (exfalso; omega)
          all_goals first
            | ((refine f_pure (rs := [.tmp 6, .tmp 7]) ?_; (repeat' (first | exact rzl_nil | apply rzl_cons | exact rz_pure rfl | exact rz_ex | exact z_os | apply rz_agg | apply rz_tup | apply rz_clo | apply rz_int | apply rz_bool | apply rz_str | refine z_eq ?_ | apply rz_sl)); all_goals trace_state))
            | (refine ⟨t.length - (i + 1), _, by omega, red_pure (ts := [(0, entAV t), (2, .v (.int .i64 v)), (4, .fp [c.row] 0 0), (11, .v (.int .i64 ((i + 1 : Nat) : Int)))]) ?_, i + 1, by omega, rfl, (hnx (by rw [hnw]; simp_all)), rfl⟩; ((repeat (first | exact tsok_nil | refine p_pure ?_ | refine p_eq ?_ ?_))))
        · exfalso
          obtain rfl : i = t.length := by omega
          rw [List.take_length] at hsofar
          obtain ⟨x, hx, hxn⟩ := List.any_eq_true.1 hst2
          rw [hsofar x hx] at hxn; cases hxn)
  | false =>
    obtain ⟨hfa, hix⟩ := hnorow hh
    rw [hix] at hea
    rw [hh, hfa] at hI
    clear hrow hnorow hix hfa
    by_cases k3 : c.kind = 3
    · exfalso; clear hst2 hea heb hfo hform hinn hpo1 hpo2; simp_all; done
    · rw [hg0 k3] at hfo
      clear hg3 hg0
      refine acall_intro Tryz.func35 rfl _ Tryz.ntmps35 (Nat.le_of_ble_eq_true rfl) _ Tryz.results35 0 rfl rfl ?_
      repeat' (first | refine walk ?_ | (first | (apply to_call Tryz.func57 rfl rfl; intro hIsFn; refine o_callf hIsFn (hform ..) ?_; skip) | (apply to_call Tryz.func40 rfl rfl; intro hIsFn; refine o_callf hIsFn (hpo1 ..) ?_; skip) | (apply to_call Tryz.func40 rfl rfl; intro hIsFn; refine o_callf hIsFn (hpo2 ..) ?_; skip) | (apply to_call Tryz.func39 rfl rfl; intro hIsFn; refine o_callp hIsFn (hfo ..) ?_) | (apply to_call Tryz.func54 rfl rfl; intro hIsFn; refine o_callp hIsFn (hea ..) ?_) | (apply to_call Tryz.func54 rfl rfl; intro hIsFn; refine o_callp hIsFn (heb ..) ?_) | (apply to_call Tryz.func58 rfl rfl; intro hIsFn; refine o_callf hIsFn (hinn ..) ?_; skip)) | ((first | (apply ops_split_t; rfl; rfl; exact nle rfl) | (apply ops_split_f; rfl; rfl; exact nle rfl) | (apply awp_cond; rfl)); all_goals (intro hc; have hp := hc; first | (simp at hp; done) | ((try simp at hp); first | (exfalso; omega) | skip))) | (apply awp_cond_any; rfl))
      all_goals try (exfalso; omega)
      all_goals try (exfalso; clear hst2 hea heb hfo hform hinn hpo1 hpo2; simp_all; done)
      all_goals (
        (refine Awp.red (red_freeze 0 rfl ?_) ?_; (intro row hrow; obtain rfl := List.mem_singleton.1 hrow; rfl); refine Awp.red (red_fp 4 0 rfl rfl (Nat.le_of_ble_eq_true rfl)) ?_)
        (refine Awp.red (red_pure (ts := [(0, entAV t), (2, .v (.int .i64 v)), (4, .fp [c.row] 0 0), (11, .v (.int .i64 ((0 : Nat) : Int)))]) ?_) ?_; ((repeat (first | exact tsok_nil | refine p_pure ?_ | refine p_eq ?_ ?_))))
        refine awp_loop (fun n σ => ∃ i : Nat, i ≤ t.length ∧ n = t.length - i ∧ (∀ x, x ∈ t.take i → newer c x = false) ∧ σ = ⟨[(0, entAV t), (2, .v (.int .i64 v)), (4, .fp [c.row] 0 0), (11, .v (.int .i64 (i : Int)))], [], C.nh⟩) t.length ⟨0, Nat.zero_le _, rfl, (by simp), rfl⟩ ?_
        rintro n σ ⟨i, hi, rfl, hsofar, rfl⟩
        by_cases hlt : i < t.length
        · have hr := getRow (f := Ent.row) hlt
          have hnx := mem_take_succ (p := fun x => newer c x = false) hlt hsofar
          have hnw : newer c t[i] = (decide (c.base < t[i].ver) && inB t[i].path c.path) := rfl
          have hpl := pathErr_small (hgt t[i] (List.getElem_mem _))
          have hii := a_isIn t[i].path c.path (by omega) (by omega)
          generalize inB t[i].path c.path = IB at *
          generalize newer c t[i] = NW at *
          clear hst2 hsofar
          repeat' (first | refine walk ?_ | (first | (apply to_call Tryz.func58 rfl rfl; intro hIsFn; refine o_callf hIsFn (hii ..) ?_; skip)) | ((first | (apply ops_split_t; rfl; rfl; exact nle rfl) | (apply ops_split_f; rfl; rfl; exact nle rfl) | (apply awp_cond; rfl)); all_goals (intro hc; have hp := hc; first | (simp at hp; done) | ((try simp at hp); first | (exfalso; omega) | skip))) | (apply awp_cond_any; rfl))
          all_goals try (exfalso; omega)
          all_goals first
            | ((refine f_pure (rs := [.tmp 6, .tmp 7]) ?_; (repeat' (first | exact rzl_nil | apply rzl_cons | exact rz_pure rfl | exact rz_ex | exact z_os | apply rz_agg | apply rz_tup | apply rz_clo | apply rz_int | apply rz_bool | apply rz_str | refine z_eq ?_ | apply rz_sl)); all_goals trace_state))
            | (refine ⟨t.length - (i + 1), _, by omega, red_pure (ts := [(0, entAV t), (2, .v (.int .i64 v)), (4, .fp [c.row] 0 0), (11, .v (.int .i64 ((i + 1 : Nat) : Int)))]) ?_, i + 1, by omega, rfl, (hnx (by rw [hnw]; simp_all)), rfl⟩; ((repeat (first | exact tsok_nil | refine p_pure ?_ | refine p_eq ?_ ?_))))
        · exfalso
          obtain rfl : i = t.length := by omega
          rw [List.take_length] at hsofar
          obtain ⟨x, hx, hxn⟩ := List.any_eq_true.1 hst2
          rw [hsofar x hx] at hxn; cases hxn)
end Go.Proofs.YtaoffekhpjgmdaaGreatDoor
