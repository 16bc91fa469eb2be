/- Clients in the abstract layer, 4: the reference's SendOf. -/
import Derived.Test.YtaoffekhpjgmdaaGreatDoorCl3
import Derived.Test.YtaoffekhpjgmdaaGreatDoorTw2
set_option linter.unusedSimpArgs false
set_option linter.unnecessarySimpa false
set_option linter.unusedVariables false
set_option maxHeartbeats 1000000
namespace Go.Proofs.YtaoffekhpjgmdaaGreatDoor
open Go.Ab Go.RowKit
set_option maxRecDepth 10000
attribute [local irreducible] Awp Ops OpsX Wanted Red ExOk Go.Ab.Fin ACall Rz RzL RzRows Enters ResOk RenV RenVL ArgV ArgVL

set_option maxHeartbeats 4000000 in
theorem a_sendOf (c : Cli) (hR : CRight c) : AFn C.P 13 [.agg c.row] (resS (sendW c)) := by
  have hB := right_iff.1 hR.base
  have hM := right_iff.1 hR.mine
  unfold sendW
  by_cases hk : c.key = []
  · rw [if_pos hk]
    have hraw := a_diffOfO c.base c.mine hB hM
    have hkeys := hR.keys
    have hw10 := hR.lwho
    have hD2 : (rawD c.base c.mine).length ≤ 2000000 := by
      have h1 := gones_len c.base c.mine
      have h2 : (c.mine.filter fun x => !stays c.base x).length ≤ c.mine.length := List.length_filter_le ..
      have h3 := hB.len
      have h4 := hM.len
      simp only [rawD, List.length_append, List.length_map]
      omega
    obtain ⟨k, hkk⟩ : ∃ k : Nat, c.keys + 1 = (k : Int) := ⟨(c.keys + 1).toNat, by omega⟩
    have hit := a_decimalN k (by omega)
    rw [← hkk, ← itoa_nat, ← hkk] at hit
    have hil : (Lib.itoa (c.keys + 1)).length ≤ 2000000 := by
      rw [hkk, itoa_nat]
      have := dig_len k
      omega
    have hil2 : (c.who ++ [45]).length ≤ 11 := by rw [List.length_append]; simp; omega
    have hSL : sendL c = ((rawD c.base c.mine).take 20).map (reb c.cursor) := rfl
    have hSC : sendC c = { c with keys := c.keys + 1, key := c.who ++ [45] ++ Lib.itoa (c.keys + 1), asked := sendL c } := rfl
    generalize sendC c = S at *
    generalize sendL c = SL at *
    generalize rawD c.base c.mine = D at *
    clear hkk
    obtain ⟨m, hm⟩ : ∃ m : Nat, (m : Int) = min (D.length : Int) 20 := ⟨min D.length 20, by omega⟩
    have hmD : m ≤ D.length := by omega
    have hm20 : m ≤ 20 := by omega
    by_cases hd : D = []
    · rw [if_pos hd]
      have hd0 : D.length = 0 := by rw [hd]; rfl
      refine acall_intro Tryz.func13 rfl _ Tryz.ntmps13 (Nat.le_of_ble_eq_true rfl) _ Tryz.results13 0 rfl rfl ?_
      repeat' (first | refine walk ?_ | (first | (apply to_call Tryz.func31 rfl rfl; intro hIsFn; refine o_callo ([]) hIsFn (hraw ..) ?_) | (apply opsx_val; apply ex_slice_os (a := 0) (b := 20); (case hx => rfl); (case hT => rfl); (case he => rfl); (case hE => rfl); (case hn => rfl); (case ha => rfl); (case hb => exact ⟨_, rfl⟩); (case hab => omega); (case hbl => (rw [List.length_map]; omega)); (case hN => exact nle rfl))) | ((first | (apply awp_cond; rfl)); all_goals (intro hc; have hp := hc; first | (simp at hp; done) | ((try simp at hp); first | (exfalso; omega) | skip))) | (apply awp_cond_any; rfl))
      all_goals try (exfalso; first | omega | contradiction)
      all_goals ((refine f_pure (rs := [.cell 2 25, .cell 3 35, .tmp 4, .tmp 5]) ?_; (repeat' (first | exact rzl_nil | apply rzl_cons | exact rz_pure rfl | exact rz_ex | exact z_os | apply rz_agg | apply rz_tup | apply rz_clo | apply rz_int | apply rz_bool | apply rz_str | refine z_eq ?_ | apply rz_sl)); all_goals trace_state))
    · rw [if_neg hd]
      have hd0 : ¬ D.length = 0 := by rw [List.length_eq_zero_iff]; exact hd
      by_cases hmax : c.keys = 1000000
      · rw [if_pos hmax]
        refine acall_intro Tryz.func13 rfl _ Tryz.ntmps13 (Nat.le_of_ble_eq_true rfl) _ Tryz.results13 0 rfl rfl ?_
        repeat' (first | refine walk ?_ | (first | (apply to_call Tryz.func31 rfl rfl; intro hIsFn; refine o_callo ([]) hIsFn (hraw ..) ?_) | (apply opsx_val; apply ex_slice_os (a := 0) (b := 20); (case hx => rfl); (case hT => rfl); (case he => rfl); (case hE => rfl); (case hn => rfl); (case ha => rfl); (case hb => exact ⟨_, rfl⟩); (case hab => omega); (case hbl => (rw [List.length_map]; omega)); (case hN => exact nle rfl))) | ((first | (apply awp_cond; rfl)); all_goals (intro hc; have hp := hc; first | (simp at hp; done) | ((try simp at hp); first | (exfalso; omega) | skip))) | (apply awp_cond_any; rfl))
        all_goals try (exfalso; first | omega | contradiction)
        all_goals ((refine f_pure (rs := [.cell 2 25, .cell 3 35, .tmp 4, .tmp 5]) ?_; (repeat' (first | exact rzl_nil | apply rzl_cons | exact rz_pure rfl | exact rz_ex | exact z_os | apply rz_agg | apply rz_tup | apply rz_clo | apply rz_int | apply rz_bool | apply rz_str | refine z_eq ?_ | apply rz_sl)); all_goals trace_state))
      · rw [if_neg hmax]
        refine acall_intro Tryz.func13 rfl _ Tryz.ntmps13 (Nat.le_of_ble_eq_true rfl) _ Tryz.results13 0 rfl rfl ?_
        repeat' (first | refine walk ?_ | (first | (apply to_call Tryz.func31 rfl rfl; intro hIsFn; refine o_callo ([]) hIsFn (hraw ..) ?_) | (apply opsx_val; apply ex_slice_os (a := 0) (b := 20); (case hx => rfl); (case hT => rfl); (case he => rfl); (case hE => rfl); (case hn => rfl); (case ha => rfl); (case hb => exact ⟨_, rfl⟩); (case hab => omega); (case hbl => (rw [List.length_map]; omega)); (case hN => exact nle rfl))) | ((first | (apply awp_cond; rfl)); all_goals (intro hc; have hp := hc; first | (simp at hp; done) | ((try simp at hp); first | (exfalso; omega) | skip))) | (apply awp_cond_any; rfl))
        all_goals try (exfalso; first | omega | contradiction)
        all_goals
          refine Awp.red (red_cut 3 m rfl (rows' := (D.take m).map Chg.row) (by rw [List.map_take])) ?_
          have hLl : (D.take m).length = m := by rw [List.length_take]; omega
          have hSL : SL = (D.take m).map (reb c.cursor) := by rw [hSL, List.take_eq_take_iff.2 (show min 20 D.length = min m D.length from by omega)]
          generalize D.take m = L at *
          subst hLl
          (refine Awp.red (red_ren (τ := ⟨[(1, .op 0 0 0), (2, .op 1 0 0), (3, .op 2 0 0), (6, .os 3 0 L.length), (7, .v (.int .i64 ((0 : Nat) : Int)))], [(0, .own false 8 [c.row]), (1, .own false 8 [zCli]), (2, .own false 10 [zRqt]), (3, .own false 5 (((L.take 0).map (reb c.cursor) ++ L.drop 0).map Chg.row))], 4⟩) [(0, 0), (1, 1), (2, 2), (3, 3)] rfl ?gts2 ?ghs2) ?_; (case gts2 => (repeat (first | exact tsok_nil | refine p_pure ?_ | refine p_op ?_ | refine p_osr ?_ | refine p_osx ?_ ?_ | refine p_eq ?_ ?_)); all_goals (first | omega | rfl | trace_state)); (case ghs2 => (repeat' (first | exact hsok_nil | refine q_r ?_ | refine q_row ?_ ?_ | refine q_idx ?_ ?_ | exact renl_nil | apply renl_cons | exact ren_pure rfl | refine ren_osq ?_ | refine ren_eq ?_ rfl)); all_goals (first | omega | rfl | trace_state)))
          refine awp_loop (fun n σ => ∃ i : Nat, i ≤ L.length ∧ n = L.length - i ∧ (True) ∧ σ = ⟨[(1, .op 0 0 0), (2, .op 1 0 0), (3, .op 2 0 0), (6, .os 3 0 L.length), (7, .v (.int .i64 (i : Int)))], [(0, .own false 8 [c.row]), (1, .own false 8 [zCli]), (2, .own false 10 [zRqt]), (3, .own false 5 (((L.take i).map (reb c.cursor) ++ L.drop i).map Chg.row))], 4⟩) L.length ⟨0, Nat.zero_le _, rfl, trivial, rfl⟩ ?_
          rintro n σ ⟨i, hi, rfl, -, rfl⟩
          by_cases hlt : i < L.length
          · have hr := reb_get (b := c.cursor) hlt
            have hss := reb_set (b := c.cursor) hlt
            repeat' (first | refine walk ?_ | (first | (refine o_ixo ?_)) | ((first | (apply awp_cond; rfl)); all_goals (intro hc; have hp := hc; first | (simp at hp; done) | ((try simp at hp); first | (exfalso; omega) | skip))) | (apply awp_cond_any; rfl))
            all_goals try (exfalso; omega)
            refine ⟨L.length - (i + 1), _, by omega, red_ren (τ := ⟨[(1, .op 0 0 0), (2, .op 1 0 0), (3, .op 2 0 0), (6, .os 3 0 L.length), (7, .v (.int .i64 ((i + 1 : Nat) : Int)))], [(0, .own false 8 [c.row]), (1, .own false 8 [zCli]), (2, .own false 10 [zRqt]), (3, .own false 5 (((L.take (i + 1)).map (reb c.cursor) ++ L.drop (i + 1)).map Chg.row))], 4⟩) [(0, 0), (1, 1), (2, 2), (3, 3)] rfl ?gts ?ghs, i + 1, by omega, rfl, trivial, rfl⟩; (case gts => (repeat (first | exact tsok_nil | refine p_pure ?_ | refine p_op ?_ | refine p_osr ?_ | refine p_osx ?_ ?_ | refine p_eq ?_ ?_)); all_goals (first | exact hss | trace_state)); (case ghs => (repeat (first | exact hsok_nil | refine q_r ?_ | refine q_idx ?_ ?_)); all_goals (first | exact hss | trace_state))
          obtain rfl : i = L.length := by omega
          rw [List.take_length, List.drop_length, List.append_nil, ← hSL]
          have hLL : L.length = SL.length := by rw [hSL, List.length_map]
          rw [hLL]
          refine Awp.red (red_freeze 3 rfl (by intro row hrow; obtain ⟨x, _, rfl⟩ := List.mem_map.1 hrow; rfl)) ?_
          refine Awp.red (red_fs 6 3 rfl rfl (by simp)) ?_
          rw [List.drop_zero, List.take_of_length_le (by simp)]
          clear hSL hLL hraw
          subst hSC
          repeat' (first | refine walk ?_ | (first | (apply to_call Tryz.func32 rfl rfl; intro hIsFn; refine o_callf hIsFn (hit ..) ?_; skip)) | ((first | (apply awp_cond; rfl)); all_goals (intro hc; have hp := hc; first | (simp at hp; done) | ((try simp at hp); first | (exfalso; omega) | skip))) | (apply awp_cond_any; rfl))
          all_goals try (exfalso; first | omega | (simp at *; done))
          all_goals ((refine f_pure (rs := [.cell 2 25, .cell 3 35, .tmp 4, .tmp 5]) ?_; (repeat' (first | exact rzl_nil | apply rzl_cons | exact rz_pure rfl | exact rz_ex | exact z_os | apply rz_agg | apply rz_tup | apply rz_clo | apply rz_int | apply rz_bool | apply rz_str | refine z_eq ?_ | apply rz_sl)); all_goals trace_state))
  · rw [if_neg hk]
    refine acall_intro Tryz.func13 rfl _ Tryz.ntmps13 (Nat.le_of_ble_eq_true rfl) _ Tryz.results13 0 rfl rfl ?_
    repeat' (first | refine walk ?_ | fail | ((first | (apply awp_cond; rfl)); all_goals (intro hc; have hp := hc; first | (simp at hp; done) | ((try simp at hp); first | (exfalso; omega) | skip))) | (apply awp_cond_any; rfl))
    all_goals try (exfalso; first | omega | contradiction)
    all_goals ((refine f_pure (rs := [.cell 2 25, .cell 3 35, .tmp 4, .tmp 5]) ?_; (repeat' (first | exact rzl_nil | apply rzl_cons | exact rz_pure rfl | exact rz_ex | exact z_os | apply rz_agg | apply rz_tup | apply rz_clo | apply rz_int | apply rz_bool | apply rz_str | refine z_eq ?_ | apply rz_sl)); all_goals trace_state))
end Go.Proofs.YtaoffekhpjgmdaaGreatDoor
