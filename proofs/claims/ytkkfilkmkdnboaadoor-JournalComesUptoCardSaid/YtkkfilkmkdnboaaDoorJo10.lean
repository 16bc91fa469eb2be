/- Journals in the abstract layer, 8b: the reference's ReadOf. -/
import Derived.Test.YtkkfilkmkdnboaaDoorJo7
import Derived.Test.YtkkfilkmkdnboaaDoorJo5
set_option linter.unusedSimpArgs false
set_option linter.unnecessarySimpa false
set_option linter.unusedVariables false
set_option maxHeartbeats 1000000
namespace Go.Proofs.YtkkfilkmkdnboaaDoor
open Go.Ab Go.RowKit
set_option maxRecDepth 10000
attribute [local irreducible] Awp Ops OpsX Wanted Red ExOk Go.Ab.Fin ACall Rz RzL RzRows Enters ResOk RenV RenVL ArgV ArgVL

theorem drop_take_succ {α : Type} {l : List α} {k c : Nat} (h : k + c < l.length) : (l.drop k).take (c + 1) = (l.drop k).take c ++ [l[k + c]] := by
  rw [List.take_succ_eq_append_getElem (by simp; omega)]
  simp
set_option maxHeartbeats 4000000 in
theorem a_readOf (j : Jou) (cursor most : Int) (hb : JBig j) (hJ : JRight j) : AFn C.P 19 [.agg j.row, .v (.int .i64 cursor), .v (.int .i64 most)] (resPg (readW j cursor most)) := by
  have hmj : (j.coms.map Com.row).length = j.coms.length := List.length_map ..
  have hlen := hJ.len
  have hlo := hJ.lo
  have hhi := hJ.hi
  have htr := a_treeOf j hb hJ
  have hL : lastN j = j.first + ((j.coms.map Com.row).length : Int) - 1 := by rw [hmj]; rfl
  have hnum := fun i h => comsR_num hJ.run i h
  unfold readW
  generalize hNW : nowT j = U at *
  clear hNW
  generalize lastN j = LN at *
  subst hL
  by_cases h1 : most < 1 ∨ 10 < most ∨ cursor < 0
  · rw [if_pos h1]
    refine acall_intro Tryd.func19 rfl _ Tryd.ntmps19 (Nat.le_of_ble_eq_true rfl) _ Tryd.results19 0 rfl rfl ?_
    (repeat apply awp_seq); apply awp_region; (repeat' (first | apply ops_free | refine o_mv ?_ | refine o_as ?_ | refine o_ld ?_ | refine o_fa ?_ | refine o_bi ?_ | refine o_pk ?_ | refine o_ln ?_ | refine o_ia ?_ | refine o_bu ?_ | refine o_al ?_ | refine o_bx ?_ | refine o_sto ?_ | (first | fail) | refine r_nil ?_ | refine g_on_t ?_ | refine g_on_f ?_ | refine g_off_t ?_ | refine g_off_f ?_ | refine g_unw ?_ | refine g_yes ?_ | refine g_no_t ?_ | refine g_no_f ?_ | ((first | refine g_sp_t ?_ ?_ | refine g_sp_f ?_ ?_); all_goals (intro hc; have hp := hc; first | (simp at hp; done) | ((try simp at hp); first | (exfalso; omega) | skip))))); show Awp _ _ _ _ _
    (refine Awp.red (red_freeze 0 rfl ?_) ?_; (intro row hrow; obtain rfl := List.mem_singleton.1 hrow; rfl); refine Awp.red (red_fp 3 0 rfl rfl (Nat.le_of_ble_eq_true rfl)) ?_)
    (repeat' (first | refine walk ?_ | (first | fail) | ((first | (apply ops_split_t; rfl; rfl; exact nle rfl) | (apply ops_split_f; rfl; rfl; exact nle rfl) | (apply awp_cond; rfl)); all_goals (intro hc; have hp := hc; first | (simp at hp; done) | ((try simp at hp); first | (exfalso; omega) | skip))) | (apply awp_cond_any; rfl)))
    (all_goals try (exfalso; first | omega | contradiction))
    all_goals ((refine f_pure (rs := [.cell 6 35, .tmp 7]) ?_; (repeat' (first | exact rzl_nil | apply rzl_cons | exact rz_pure rfl | exact rz_ex | exact z_os | apply rz_agg | apply rz_tup | apply rz_clo | apply rz_int | apply rz_bool | apply rz_str | refine z_eq ?_ | apply rz_sl)); all_goals trace_state))
  · rw [if_neg h1]
    by_cases h2 : j.first + ((j.coms.map Com.row).length : Int) - 1 < cursor
    · rw [if_pos h2]
      refine acall_intro Tryd.func19 rfl _ Tryd.ntmps19 (Nat.le_of_ble_eq_true rfl) _ Tryd.results19 0 rfl rfl ?_
      (repeat apply awp_seq); apply awp_region; (repeat' (first | apply ops_free | refine o_mv ?_ | refine o_as ?_ | refine o_ld ?_ | refine o_fa ?_ | refine o_bi ?_ | refine o_pk ?_ | refine o_ln ?_ | refine o_ia ?_ | refine o_bu ?_ | refine o_al ?_ | refine o_bx ?_ | refine o_sto ?_ | (first | fail) | refine r_nil ?_ | refine g_on_t ?_ | refine g_on_f ?_ | refine g_off_t ?_ | refine g_off_f ?_ | refine g_unw ?_ | refine g_yes ?_ | refine g_no_t ?_ | refine g_no_f ?_ | ((first | refine g_sp_t ?_ ?_ | refine g_sp_f ?_ ?_); all_goals (intro hc; have hp := hc; first | (simp at hp; done) | ((try simp at hp); first | (exfalso; omega) | skip))))); show Awp _ _ _ _ _
      (refine Awp.red (red_freeze 0 rfl ?_) ?_; (intro row hrow; obtain rfl := List.mem_singleton.1 hrow; rfl); refine Awp.red (red_fp 3 0 rfl rfl (Nat.le_of_ble_eq_true rfl)) ?_)
      (repeat' (first | refine walk ?_ | (first | fail) | ((first | (apply ops_split_t; rfl; rfl; exact nle rfl) | (apply ops_split_f; rfl; rfl; exact nle rfl) | (apply awp_cond; rfl)); all_goals (intro hc; have hp := hc; first | (simp at hp; done) | ((try simp at hp); first | (exfalso; omega) | skip))) | (apply awp_cond_any; rfl)))
      (all_goals try (exfalso; first | omega | contradiction))
      all_goals ((refine f_pure (rs := [.cell 6 35, .tmp 7]) ?_; (repeat' (first | exact rzl_nil | apply rzl_cons | exact rz_pure rfl | exact rz_ex | exact z_os | apply rz_agg | apply rz_tup | apply rz_clo | apply rz_int | apply rz_bool | apply rz_str | refine z_eq ?_ | apply rz_sl)); all_goals trace_state))
    · rw [if_neg h2]
      by_cases h3 : cursor < j.first - 1
      · rw [if_pos h3]
        refine acall_intro Tryd.func19 rfl _ Tryd.ntmps19 (Nat.le_of_ble_eq_true rfl) _ Tryd.results19 0 rfl rfl ?_
        (repeat apply awp_seq); apply awp_region; (repeat' (first | apply ops_free | refine o_mv ?_ | refine o_as ?_ | refine o_ld ?_ | refine o_fa ?_ | refine o_bi ?_ | refine o_pk ?_ | refine o_ln ?_ | refine o_ia ?_ | refine o_bu ?_ | refine o_al ?_ | refine o_bx ?_ | refine o_sto ?_ | (first | fail) | refine r_nil ?_ | refine g_on_t ?_ | refine g_on_f ?_ | refine g_off_t ?_ | refine g_off_f ?_ | refine g_unw ?_ | refine g_yes ?_ | refine g_no_t ?_ | refine g_no_f ?_ | ((first | refine g_sp_t ?_ ?_ | refine g_sp_f ?_ ?_); all_goals (intro hc; have hp := hc; first | (simp at hp; done) | ((try simp at hp); first | (exfalso; omega) | skip))))); show Awp _ _ _ _ _
        (refine Awp.red (red_freeze 0 rfl ?_) ?_; (intro row hrow; obtain rfl := List.mem_singleton.1 hrow; rfl); refine Awp.red (red_fp 3 0 rfl rfl (Nat.le_of_ble_eq_true rfl)) ?_)
        (repeat' (first | refine walk ?_ | (first | (apply to_call Tryd.func23 rfl rfl; intro hIsFn; refine o_callp hIsFn (htr ..) ?_)) | ((first | (apply ops_split_t; rfl; rfl; exact nle rfl) | (apply ops_split_f; rfl; rfl; exact nle rfl) | (apply awp_cond; rfl)); all_goals (intro hc; have hp := hc; first | (simp at hp; done) | ((try simp at hp); first | (exfalso; omega) | skip))) | (apply awp_cond_any; rfl)))
        (all_goals try (exfalso; first | omega | contradiction))
        all_goals ((refine f_pure (rs := [.cell 6 35, .tmp 7]) ?_; (repeat' (first | exact rzl_nil | apply rzl_cons | exact rz_pure rfl | exact rz_ex | exact z_os | apply rz_agg | apply rz_tup | apply rz_clo | apply rz_int | apply rz_bool | apply rz_str | refine z_eq ?_ | apply rz_sl)); all_goals trace_state))
      · rw [if_neg h3]
        obtain ⟨k, hk⟩ : ∃ k : Nat, k = (cursor - j.first + 1).toNat := ⟨_, rfl⟩
        obtain ⟨m, hm⟩ : ∃ m : Nat, most = m := ⟨most.toNat, by omega⟩
        subst hm
        have hP : partC j cursor m = (j.coms.drop k).take m := by unfold partC; rw [hk]; simp
        rw [hP]
        have hcur : cursor = j.first - 1 + k := by omega
        have hkl : k ≤ j.coms.length := by omega
        clear hP hk
        subst hcur
        refine acall_intro Tryd.func19 rfl _ Tryd.ntmps19 (Nat.le_of_ble_eq_true rfl) _ Tryd.results19 0 rfl rfl ?_
        (repeat apply awp_seq); apply awp_region; (repeat' (first | apply ops_free | refine o_mv ?_ | refine o_as ?_ | refine o_ld ?_ | refine o_fa ?_ | refine o_bi ?_ | refine o_pk ?_ | refine o_ln ?_ | refine o_ia ?_ | refine o_bu ?_ | refine o_al ?_ | refine o_bx ?_ | refine o_sto ?_ | (first | fail) | refine r_nil ?_ | refine g_on_t ?_ | refine g_on_f ?_ | refine g_off_t ?_ | refine g_off_f ?_ | refine g_unw ?_ | refine g_yes ?_ | refine g_no_t ?_ | refine g_no_f ?_ | ((first | refine g_sp_t ?_ ?_ | refine g_sp_f ?_ ?_); all_goals (intro hc; have hp := hc; first | (simp at hp; done) | ((try simp at hp); first | (exfalso; omega) | skip))))); show Awp _ _ _ _ _
        (refine Awp.red (red_freeze 0 rfl ?_) ?_; (intro row hrow; obtain rfl := List.mem_singleton.1 hrow; rfl); refine Awp.red (red_fp 3 0 rfl rfl (Nat.le_of_ble_eq_true rfl)) ?_)
        (repeat' (first | refine walk ?_ | (first | fail) | ((first | (apply ops_split_t; rfl; rfl; exact nle rfl) | (apply ops_split_f; rfl; rfl; exact nle rfl) | (apply awp_cond; rfl)); all_goals (intro hc; have hp := hc; first | (simp at hp; done) | ((try simp at hp); first | (exfalso; omega) | skip))) | (apply awp_cond_any; rfl)))
        (all_goals try (exfalso; first | omega | contradiction))
        (refine Awp.red (red_ren (τ := ⟨[(1, .v (.int .i64 (j.first - 1 + (k : Int)))), (2, .v (.int .i64 (m : Int))), (3, .fp [j.row] 0 0), (6, .op 0 0 0), (8, .v (.int .i64 (j.first + ((j.coms.map Com.row).length : Int) - 1))), (9, .op 1 0 0), (10, .v (.int .i64 ((0 : Nat) : Int)))], [(0, .own false 5 [[.v (.bool false), .sl true [], .sl true [], .v (.int .i64 0), .v (.bool false)]]), (1, .own false 5 [[.v (.bool false), .sl true [], .sl true [], .v (.int .i64 (j.first - 1 + (k : Int))), .v (.bool false)]])], 2⟩) [(1, 0), (2, 1)] rfl ?gts2 ?ghs2) ?gmain2; (case gts2 => (repeat (first | exact tsok_nil | refine p_pure ?_ | refine p_op ?_ | refine p_osr ?_ | refine p_osx ?_ ?_ | refine p_eq ?_ ?_)); all_goals trace_state); (case ghs2 => (repeat' (first | exact hsok_nil | refine q_r ?_ | refine q_row ?_ ?_ | refine q_idx ?_ ?_ | exact renl_nil | apply renl_cons | exact ren_pure rfl | refine ren_osq ?_ | refine ren_eq ?_ rfl)); all_goals trace_state))
        refine awp_loop (fun n σ => ∃ i : Nat, i ≤ j.coms.length ∧ n = j.coms.length - i ∧ ((i ≤ k ∧ σ = ⟨[(1, .v (.int .i64 (j.first - 1 + (k : Int)))), (2, .v (.int .i64 (m : Int))), (3, .fp [j.row] 0 0), (6, .op 0 0 0), (8, .v (.int .i64 (j.first + ((j.coms.map Com.row).length : Int) - 1))), (9, .op 1 0 0), (10, .v (.int .i64 (i : Int)))], [(0, .own false 5 [[.v (.bool false), .sl true [], .sl true [], .v (.int .i64 0), .v (.bool false)]]), (1, .own false 5 [[.v (.bool false), .sl true [], .sl true [], .v (.int .i64 (j.first - 1 + (k : Int))), .v (.bool false)]])], 2⟩) ∨ ∃ c : Nat, i = k + c ∧ 0 < c ∧ c ≤ m ∧ σ = ⟨[(1, .v (.int .i64 (j.first - 1 + (k : Int)))), (2, .v (.int .i64 (m : Int))), (3, .fp [j.row] 0 0), (6, .op 0 0 0), (8, .v (.int .i64 (j.first + ((j.coms.map Com.row).length : Int) - 1))), (9, .op 1 0 0), (10, .v (.int .i64 ((k + c : Nat) : Int)))], [(0, .own false 5 [[.v (.bool false), .sl true [], .sl true [], .v (.int .i64 0), .v (.bool false)]]), (1, .own false 5 [[.v (.bool false), .sl true [], .os 2 0 c, .v (.int .i64 (j.first - 1 + ((k + c : Nat) : Int))), .v (.bool false)]]), (2, .own false 3 (((j.coms.drop k).take c).map Com.row))], 3⟩)) j.coms.length ⟨0, Nat.zero_le _, rfl, .inl ⟨Nat.zero_le _, rfl⟩⟩ ?_
        rintro n σ ⟨i, hi, rfl, hcase⟩
        rcases hcase with ⟨hik, rfl⟩ | ⟨c, rfl, hc0, hcm, rfl⟩
        · by_cases hlt : i < j.coms.length
          · have hr := getRow (f := Com.row) hlt
            have hn := (hnum i hlt).1
            by_cases he : i = k
            · have hd1 : (j.coms.drop i).take 1 = [j.coms[i]] := by simpa using drop_take_succ (l := j.coms) (k := i) (c := 0) (by omega)
              subst he
              repeat' (first | refine walk ?_ | (first | (refine o_fzl ?_) | (refine o_appn ?_)) | ((first | (apply ops_split_t; rfl; rfl; exact nle rfl) | (apply ops_split_f; rfl; rfl; exact nle rfl) | (apply awp_cond; rfl)); all_goals (intro hc; have hp := hc; first | (simp at hp; done) | ((try simp at hp); first | (exfalso; omega) | skip))) | (apply awp_cond_any; rfl))
              all_goals try (exfalso; first | omega | contradiction)
              refine ⟨j.coms.length - (i + 1), _, by omega, red_ren (τ := ⟨[(1, .v (.int .i64 (j.first - 1 + (i : Int)))), (2, .v (.int .i64 (m : Int))), (3, .fp [j.row] 0 0), (6, .op 0 0 0), (8, .v (.int .i64 (j.first + ((j.coms.map Com.row).length : Int) - 1))), (9, .op 1 0 0), (10, .v (.int .i64 ((i + 1 : Nat) : Int)))], [(0, .own false 5 [[.v (.bool false), .sl true [], .sl true [], .v (.int .i64 0), .v (.bool false)]]), (1, .own false 5 [[.v (.bool false), .sl true [], .os 2 0 1, .v (.int .i64 (j.first - 1 + ((i + 1 : Nat) : Int))), .v (.bool false)]]), (2, .own false 3 (((j.coms.drop i).take 1).map Com.row))], 3⟩) [(0, 0), (1, 1), (2, 2)] rfl ?gts ?ghs, i + 1, by omega, rfl, .inr ⟨1, rfl, by omega, by omega, rfl⟩⟩; (case gts => (repeat (first | exact tsok_nil | refine p_pure ?_ | refine p_op ?_ | refine p_osr ?_ | refine p_osx ?_ ?_ | refine p_eq ?_ ?_)); all_goals (first | rfl | (apply av_int; omega) | (rw [hd1]; rfl))); (case ghs => (repeat' (first | exact hsok_nil | refine q_r ?_ | refine q_row ?_ ?_ | refine q_idx ?_ ?_ | exact renl_nil | apply renl_cons | exact ren_pure rfl | refine ren_osq ?_ | refine ren_eq ?_ rfl)); all_goals (first | rfl | (apply av_int; omega) | (rw [hd1]; rfl)))
            · repeat' (first | refine walk ?_ | fail | ((first | (apply ops_split_t; rfl; rfl; exact nle rfl) | (apply ops_split_f; rfl; rfl; exact nle rfl) | (apply awp_cond; rfl)); all_goals (intro hc; have hp := hc; first | (simp at hp; done) | ((try simp at hp); first | (exfalso; omega) | skip))) | (apply awp_cond_any; rfl))
              all_goals try (exfalso; first | omega | contradiction)
              refine ⟨j.coms.length - (i + 1), _, by omega, red_ren (τ := ⟨[(1, .v (.int .i64 (j.first - 1 + (k : Int)))), (2, .v (.int .i64 (m : Int))), (3, .fp [j.row] 0 0), (6, .op 0 0 0), (8, .v (.int .i64 (j.first + ((j.coms.map Com.row).length : Int) - 1))), (9, .op 1 0 0), (10, .v (.int .i64 ((i + 1 : Nat) : Int)))], [(0, .own false 5 [[.v (.bool false), .sl true [], .sl true [], .v (.int .i64 0), .v (.bool false)]]), (1, .own false 5 [[.v (.bool false), .sl true [], .sl true [], .v (.int .i64 (j.first - 1 + (k : Int))), .v (.bool false)]])], 2⟩) [(0, 0), (1, 1)] rfl ?gts ?ghs, i + 1, by omega, rfl, .inl ⟨by omega, rfl⟩⟩; (case gts => (repeat (first | exact tsok_nil | refine p_pure ?_ | refine p_op ?_ | refine p_osr ?_ | refine p_osx ?_ ?_ | refine p_eq ?_ ?_)); all_goals trace_state); (case ghs => (repeat' (first | exact hsok_nil | refine q_r ?_ | refine q_row ?_ ?_ | refine q_idx ?_ ?_ | exact renl_nil | apply renl_cons | exact ren_pure rfl | refine ren_osq ?_ | refine ren_eq ?_ rfl)); all_goals trace_state)
          · obtain rfl : i = j.coms.length := by omega
            obtain rfl : k = j.coms.length := by omega
            rw [List.drop_length]
            repeat' (first | refine walk ?_ | fail | ((first | (apply ops_split_t; rfl; rfl; exact nle rfl) | (apply ops_split_f; rfl; rfl; exact nle rfl) | (apply awp_cond; rfl)); all_goals (intro hc; have hp := hc; first | (simp at hp; done) | ((try simp at hp); first | (exfalso; omega) | skip))) | (apply awp_cond_any; rfl))
            all_goals try (exfalso; first | omega | contradiction)
            all_goals ((refine f_pure (rs := [.cell 6 35, .tmp 7]) ?_; (repeat' (first | exact rzl_nil | apply rzl_cons | exact rz_pure rfl | exact rz_ex | exact z_os | apply rz_agg | apply rz_tup | apply rz_clo | apply rz_int | apply rz_bool | apply rz_str | refine z_eq ?_ | apply rz_sl)); all_goals (simp; done)))
        · have hcl : (((j.coms.drop k).take c).map Com.row).length = c := by simp; omega
          by_cases hgo : k + c < j.coms.length ∧ c < m
          · have hr := getRow (f := Com.row) hgo.1
            have hn := (hnum (k + c) hgo.1).1
            have hts := drop_take_succ hgo.1
            repeat' (first | refine walk ?_ | (first | (refine o_fzl ?_) | (refine o_appo ?_)) | ((first | (apply ops_split_t; rfl; rfl; exact nle rfl) | (apply ops_split_f; rfl; rfl; exact nle rfl) | (apply awp_cond; rfl)); all_goals (intro hc; have hp := hc; first | (simp at hp; done) | ((try simp at hp); first | (exfalso; omega) | skip))) | (apply awp_cond_any; rfl))
            all_goals try (exfalso; first | omega | contradiction)
            refine ⟨j.coms.length - (k + c + 1), _, by omega, red_ren (τ := ⟨[(1, .v (.int .i64 (j.first - 1 + (k : Int)))), (2, .v (.int .i64 (m : Int))), (3, .fp [j.row] 0 0), (6, .op 0 0 0), (8, .v (.int .i64 (j.first + ((j.coms.map Com.row).length : Int) - 1))), (9, .op 1 0 0), (10, .v (.int .i64 ((k + (c + 1) : Nat) : Int)))], [(0, .own false 5 [[.v (.bool false), .sl true [], .sl true [], .v (.int .i64 0), .v (.bool false)]]), (1, .own false 5 [[.v (.bool false), .sl true [], .os 2 0 (c + 1), .v (.int .i64 (j.first - 1 + ((k + (c + 1) : Nat) : Int))), .v (.bool false)]]), (2, .own false 3 (((j.coms.drop k).take (c + 1)).map Com.row))], 3⟩) [(0, 0), (1, 1), (3, 2)] rfl ?gts ?ghs, k + c + 1, by omega, rfl, .inr ⟨c + 1, rfl, by omega, by omega, rfl⟩⟩
            (case gts => (repeat (first | exact tsok_nil | refine p_pure ?_ | refine p_op ?_ | refine p_osr ?_ | refine p_osx ?_ ?_ | refine p_eq ?_ ?_)))
            (case ghs => (repeat' (first | exact hsok_nil | refine q_r ?_ | refine q_row ?_ ?_ | refine q_idx ?_ ?_ | exact renl_nil | apply renl_cons | exact ren_pure rfl | refine ren_osq ?_ | refine ren_eq ?_ rfl)); all_goals (first | (apply av_int; omega) | rfl | (rw [hts, List.map_append, List.take_of_length_le (by omega)]; rfl) | trace_state))
          · have hX : (j.coms.drop k).take m = (j.coms.drop k).take c := by
              by_cases h : c = m
              · rw [h]
              · rw [List.take_of_length_le (by simp; omega), List.take_of_length_le (by simp; omega)]
            rw [hX]
            have hcl2 : ((j.coms.drop k).take c).length = c := by simpa using hcl
            repeat' (first | refine walk ?_ | fail | ((first | (apply ops_split_t; rfl; rfl; exact nle rfl) | (apply ops_split_f; rfl; rfl; exact nle rfl) | (apply awp_cond; rfl)); all_goals (intro hc; have hp := hc; first | (simp at hp; done) | ((try simp at hp); first | (exfalso; omega) | skip))) | (apply awp_cond_any; rfl))
            all_goals try (exfalso; first | omega | contradiction)
            all_goals ((refine f_pure (rs := [.cell 6 35, .tmp 7]) ?_; (repeat' (first | exact rzl_nil | apply rzl_cons | exact rz_pure rfl | exact rz_ex | exact z_os | apply rz_agg | apply rz_tup | apply rz_clo | apply rz_int | apply rz_bool | apply rz_str | refine z_eq ?_ | apply rz_sl)); all_goals (first | rfl | (simp only [hcl2]; omega) | (rw [decide_eq_decide]; simp only [hcl2]; omega))))
end Go.Proofs.YtkkfilkmkdnboaaDoor
