import Derived.Test.YtaoffekhpjgmdaaGreatDoorMz25
import Derived.Test.YtaoffekhpjgmdaaGreatDoorMz26
import Derived.Test.YtaoffekhpjgmdaaGreatDoorMz18
import Derived.Test.YtaoffekhpjgmdaaGreatDoorMz27
/- Clients in the abstract layer, 3: Send. -/
set_option linter.unusedSimpArgs false
set_option linter.unnecessarySimpa false
set_option linter.unusedVariables false
set_option maxHeartbeats 1000000
namespace Go.Proofs.YtaoffekhpjgmdaaGreatDoor
open Go.Ab Go.RowKit
set_option maxRecDepth 10000
attribute [local irreducible] Awp Ops OpsX Wanted Red ExOk Go.Ab.Fin ACall Rz RzL RzRows Enters ResOk RenV RenVL ArgV ArgVL

theorem reb_set {b : Int} {l : List Chg} {i : Nat} (h : i < l.length) :
    (((l.take i).map (reb b) ++ l.drop i).map Chg.row).set i (reb b l[i]).row = ((l.take (i + 1)).map (reb b) ++ l.drop (i + 1)).map Chg.row := by
  rw [← List.map_set, List.take_succ_eq_append_getElem h, List.map_append (f := reb b), List.map_singleton, List.append_assoc]
  congr 1
  rw [List.set_append_right _ _ (by simp; omega)]
  congr 1
  rw [show i - ((l.take i).map (reb b)).length = 0 from by simp; omega, List.drop_eq_getElem_cons h]
  rfl
theorem reb_get {b : Int} {l : List Chg} {i : Nat} (h : i < l.length) : (((l.take i).map (reb b) ++ l.drop i).map Chg.row)[i]? = some l[i].row := by
  rw [List.getElem?_map, List.getElem?_append_right (by simp; omega), show i - ((l.take i).map (reb b)).length = 0 from by simp; omega, List.drop_eq_getElem_cons h]
  rfl
def zSl : AV := ofV (.slice none 0 0)
def zCli : List AV := [.v (str []), .v (str []), zSl, .v (.int .i64 0), zSl, .v (str []), zSl, .v (.int .i64 0)]
def zRqt : List AV := [.v (.int .i64 0), .v (str []), .v (str []), .v (str []), .v (str []), .v (str []), .v (.int .i64 0), .v (.int .i64 0), .v (.int .i64 0), zSl]
set_option maxHeartbeats 4000000 in
theorem a_send (c : Cli) (hb : CliBig c) : AFn C.P 12 [.agg c.row] (resS (sendR c)) := by
  have h1 := a_ccheck c hb
  unfold sendR
  by_cases hz : cliErr c = 0
  · rw [if_neg (by simp [hz])]
    have hR := cright_iff.1 hz
    have hB := right_iff.1 hR.base
    have hM := right_iff.1 hR.mine
    have h3 := a_clonedC c (by have := hB.len; omega) (by have := hM.len; omega) (by have := hR.few; omega)
    rw [hz] at h1
    have hfew := hR.few
    have hcl := a_cloneCF c.asked (by omega)
    unfold sendW
    by_cases hk : c.key = []
    · rw [if_pos hk]
      have hraw := a_rawO c.base c.mine (by have := hB.len; omega) (by have := hM.len; omega) hB.big.each hB.rise hM.rise
      have hit := a_itoa (c.keys + 1) (by have := hR.keys; omega) (by have := hR.keys; omega)
      have hkeys := hR.keys
      have hw10 := hR.lwho
      have hil : (Lib.itoa (c.keys + 1)).length ≤ 2000000 := by
        obtain ⟨k, hk⟩ : ∃ k : Nat, c.keys + 1 = (k : Int) := ⟨(c.keys + 1).toNat, by omega⟩
        rw [hk, itoa_nat]
        have := dig_len k
        omega
      have hil2 : (c.who ++ [45]).length ≤ 11 := by rw [List.length_append]; simp; omega
      have hSL : sendL c = ((rawD c.base c.mine).take 20).map (reb c.cursor) := rfl
      have hSC : sendC c = { c with keys := c.keys + 1, key := c.who ++ [45] ++ Lib.itoa (c.keys + 1), asked := sendL c } := rfl
      generalize sendC c = S at *
      generalize sendL c = SL at *
      generalize rawD c.base c.mine = D at *
      obtain ⟨m, hm⟩ : ∃ m : Nat, (m : Int) = min (D.length : Int) 20 := ⟨min D.length 20, by omega⟩
      have hmD : m ≤ D.length := by omega
      have hm20 : m ≤ 20 := by omega
      by_cases hd : D = []
      · rw [if_pos hd]
        have hd0 : D.length = 0 := by rw [hd]; rfl
        refine acall_intro Tryz.func12 rfl _ Tryz.ntmps12 (Nat.le_of_ble_eq_true rfl) _ Tryz.results12 0 rfl rfl ?_
        repeat' (first | refine walk ?_ | (first | (apply to_call Tryz.func11 rfl rfl; intro hIsFn; refine o_callp hIsFn (h1 ..) ?_) | (apply to_call Tryz.func27 rfl rfl; intro hIsFn; refine o_callp hIsFn (h3 ..) ?_) | (apply to_call Tryz.func28 rfl rfl; intro hIsFn; refine o_callo ([]) hIsFn (hraw ..) ?_) | (apply opsx_val; apply ex_min; (case hx => rfl); (case hy => rfl); (case hN => exact nle rfl)) | (apply opsx_val; apply ex_slice_os (a := 0) (b := m); (case hx => rfl); (case hT => rfl); (case he => rfl); (case hE => rfl); (case hn => rfl); (case ha => rfl); (case hb => exact ⟨_, av_int hm.symm⟩); (case hab => omega); (case hbl => (rw [List.length_map]; omega)); (case hN => exact nle rfl))) | ((first | (apply awp_cond; rfl)); all_goals (intro hc; have hp := hc; first | (simp at hp; done) | ((try simp at hp); first | (exfalso; omega) | skip))) | (apply awp_cond_any; rfl))
        all_goals try (exfalso; first | omega | contradiction)
        all_goals ((refine f_pure (rs := [.cell 2 25, .cell 3 35, .tmp 4, .tmp 5]) ?_; (repeat' (first | exact rzl_nil | apply rzl_cons | exact rz_pure rfl | exact rz_ex | exact z_os | apply rz_agg | apply rz_tup | apply rz_clo | apply rz_int | apply rz_bool | apply rz_str | refine z_eq ?_ | apply rz_sl)); all_goals trace_state))
      · rw [if_neg hd]
        have hd0 : ¬ D.length = 0 := by rw [List.length_eq_zero_iff]; exact hd
        by_cases hmax : c.keys = 1000000
        · rw [if_pos hmax]
          refine acall_intro Tryz.func12 rfl _ Tryz.ntmps12 (Nat.le_of_ble_eq_true rfl) _ Tryz.results12 0 rfl rfl ?_
          repeat' (first | refine walk ?_ | (first | (apply to_call Tryz.func11 rfl rfl; intro hIsFn; refine o_callp hIsFn (h1 ..) ?_) | (apply to_call Tryz.func27 rfl rfl; intro hIsFn; refine o_callp hIsFn (h3 ..) ?_) | (apply to_call Tryz.func28 rfl rfl; intro hIsFn; refine o_callo ([]) hIsFn (hraw ..) ?_) | (apply opsx_val; apply ex_min; (case hx => rfl); (case hy => rfl); (case hN => exact nle rfl)) | (apply opsx_val; apply ex_slice_os (a := 0) (b := m); (case hx => rfl); (case hT => rfl); (case he => rfl); (case hE => rfl); (case hn => rfl); (case ha => rfl); (case hb => exact ⟨_, av_int hm.symm⟩); (case hab => omega); (case hbl => (rw [List.length_map]; omega)); (case hN => exact nle rfl))) | ((first | (apply awp_cond; rfl)); all_goals (intro hc; have hp := hc; first | (simp at hp; done) | ((try simp at hp); first | (exfalso; omega) | skip))) | (apply awp_cond_any; rfl))
          all_goals try (exfalso; first | omega | contradiction)
          all_goals ((refine f_pure (rs := [.cell 2 25, .cell 3 35, .tmp 4, .tmp 5]) ?_; (repeat' (first | exact rzl_nil | apply rzl_cons | exact rz_pure rfl | exact rz_ex | exact z_os | apply rz_agg | apply rz_tup | apply rz_clo | apply rz_int | apply rz_bool | apply rz_str | refine z_eq ?_ | apply rz_sl)); all_goals trace_state))
        · rw [if_neg hmax]
          refine acall_intro Tryz.func12 rfl _ Tryz.ntmps12 (Nat.le_of_ble_eq_true rfl) _ Tryz.results12 0 rfl rfl ?_
          repeat' (first | refine walk ?_ | (first | (apply to_call Tryz.func11 rfl rfl; intro hIsFn; refine o_callp hIsFn (h1 ..) ?_) | (apply to_call Tryz.func27 rfl rfl; intro hIsFn; refine o_callp hIsFn (h3 ..) ?_) | (apply to_call Tryz.func28 rfl rfl; intro hIsFn; refine o_callo ([]) hIsFn (hraw ..) ?_) | (apply opsx_val; apply ex_min; (case hx => rfl); (case hy => rfl); (case hN => exact nle rfl)) | (apply opsx_val; apply ex_slice_os (a := 0) (b := m); (case hx => rfl); (case hT => rfl); (case he => rfl); (case hE => rfl); (case hn => rfl); (case ha => rfl); (case hb => exact ⟨_, av_int hm.symm⟩); (case hab => omega); (case hbl => (rw [List.length_map]; omega)); (case hN => exact nle rfl))) | ((first | (apply awp_cond; rfl)); all_goals (intro hc; have hp := hc; first | (simp at hp; done) | ((try simp at hp); first | (exfalso; omega) | skip))) | (apply awp_cond_any; rfl))
          all_goals try (exfalso; first | omega | contradiction)
          refine Awp.red (red_cut 3 m rfl (rows' := (D.take m).map Chg.row) (by rw [List.map_take])) ?_
          have hLl : (D.take m).length = m := by rw [List.length_take]; omega
          have hSL : SL = (D.take m).map (reb c.cursor) := by rw [hSL, List.take_eq_take_iff.2 (show min 20 D.length = min m D.length from by omega)]
          generalize D.take m = L at *
          subst hLl
          (refine Awp.red (red_ren (τ := ⟨[(1, .op 0 0 0), (2, .op 1 0 0), (3, .op 2 0 0), (7, .os 3 0 L.length), (42, .v (.int .i64 L.length)), (43, .v (.int .i64 ((0 : Nat) : Int)))], [(0, .own false 8 [c.row]), (1, .own false 8 [zCli]), (2, .own false 10 [zRqt]), (3, .own false 5 (((L.take 0).map (reb c.cursor) ++ L.drop 0).map Chg.row))], 4⟩) [(0, 0), (1, 1), (2, 2), (3, 3)] rfl ?gts2 ?ghs2) ?gmain2; (case gts2 => (repeat (first | exact tsok_nil | refine p_pure ?_ | refine p_op ?_ | refine p_osr ?_ | refine p_osx ?_ ?_ | refine p_eq ?_ ?_)); all_goals (first | omega | rfl | trace_state)); (case ghs2 => (repeat' (first | exact hsok_nil | refine q_r ?_ | refine q_row ?_ ?_ | refine q_idx ?_ ?_ | exact renl_nil | apply renl_cons | exact ren_pure rfl | refine ren_osq ?_ | refine ren_eq ?_ rfl)); all_goals (first | omega | rfl | trace_state)))
          refine awp_loop (fun n σ => ∃ i : Nat, i ≤ L.length ∧ n = L.length - i ∧ (True) ∧ σ = ⟨[(1, .op 0 0 0), (2, .op 1 0 0), (3, .op 2 0 0), (7, .os 3 0 L.length), (42, .v (.int .i64 L.length)), (43, .v (.int .i64 (i : Int)))], [(0, .own false 8 [c.row]), (1, .own false 8 [zCli]), (2, .own false 10 [zRqt]), (3, .own false 5 (((L.take i).map (reb c.cursor) ++ L.drop i).map Chg.row))], 4⟩) L.length ⟨0, Nat.zero_le _, rfl, trivial, rfl⟩ ?_
          rintro n σ ⟨i, hi, rfl, -, rfl⟩
          by_cases hlt : i < L.length
          · have hr := reb_get (b := c.cursor) hlt
            have hss := reb_set (b := c.cursor) hlt
            repeat' (first | refine walk ?_ | (first | (refine o_ixo ?_)) | ((first | (apply awp_cond; rfl)); all_goals (intro hc; have hp := hc; first | (simp at hp; done) | ((try simp at hp); first | (exfalso; omega) | skip))) | (apply awp_cond_any; rfl))
            all_goals try (exfalso; omega)
            refine ⟨L.length - (i + 1), _, by omega, red_ren (τ := ⟨[(1, .op 0 0 0), (2, .op 1 0 0), (3, .op 2 0 0), (7, .os 3 0 L.length), (42, .v (.int .i64 L.length)), (43, .v (.int .i64 ((i + 1 : Nat) : Int)))], [(0, .own false 8 [c.row]), (1, .own false 8 [zCli]), (2, .own false 10 [zRqt]), (3, .own false 5 (((L.take (i + 1)).map (reb c.cursor) ++ L.drop (i + 1)).map Chg.row))], 4⟩) [(0, 0), (1, 1), (2, 2), (3, 3)] rfl ?gts ?ghs, i + 1, by omega, rfl, trivial, rfl⟩; (case gts => (repeat (first | exact tsok_nil | refine p_pure ?_ | refine p_op ?_ | refine p_osr ?_ | refine p_osx ?_ ?_ | refine p_eq ?_ ?_)); all_goals (first | exact hss | trace_state)); (case ghs => (repeat (first | exact hsok_nil | refine q_r ?_ | refine q_idx ?_ ?_)); all_goals (first | exact hss | trace_state))
          obtain rfl : i = L.length := by omega
          rw [List.take_length, List.drop_length, List.append_nil, ← hSL]
          have hLL : L.length = SL.length := by rw [hSL, List.length_map]
          rw [hLL]
          refine Awp.red (red_freeze 3 rfl (by intro row hrow; obtain ⟨x, _, rfl⟩ := List.mem_map.1 hrow; rfl)) ?_
          refine Awp.red (red_fs 7 3 rfl rfl (by simp)) ?_
          rw [List.drop_zero, List.take_of_length_le (by simp)]
          have hcl2 := a_cloneCF SL (by omega)
          clear hSL hLL hraw h1 h3 hcl
          subst hSC
          repeat' (first | refine walk ?_ | (first | (apply to_call Tryz.func29 rfl rfl; intro hIsFn; refine o_callf hIsFn (hit ..) ?_; skip) | (apply to_call Tryz.func30 rfl rfl; intro hIsFn; refine o_callp hIsFn (hcl2 ..) ?_)) | ((first | (apply awp_cond; rfl)); all_goals (intro hc; have hp := hc; first | (simp at hp; done) | ((try simp at hp); first | (exfalso; omega) | skip))) | (apply awp_cond_any; rfl))
          all_goals try (exfalso; omega)
          all_goals ((refine f_pure (rs := [.cell 2 25, .cell 3 35, .tmp 4, .tmp 5]) ?_; (repeat' (first | exact rzl_nil | apply rzl_cons | exact rz_pure rfl | exact rz_ex | exact z_os | apply rz_agg | apply rz_tup | apply rz_clo | apply rz_int | apply rz_bool | apply rz_str | refine z_eq ?_ | apply rz_sl)); all_goals trace_state))
    · rw [if_neg hk]
      refine acall_intro Tryz.func12 rfl _ Tryz.ntmps12 (Nat.le_of_ble_eq_true rfl) _ Tryz.results12 0 rfl rfl ?_
      repeat' (first | refine walk ?_ | (first | (apply to_call Tryz.func11 rfl rfl; intro hIsFn; refine o_callp hIsFn (h1 ..) ?_) | (apply to_call Tryz.func27 rfl rfl; intro hIsFn; refine o_callp hIsFn (h3 ..) ?_) | (apply to_call Tryz.func30 rfl rfl; intro hIsFn; refine o_callp hIsFn (hcl ..) ?_)) | ((first | (apply awp_cond; rfl)); all_goals (intro hc; have hp := hc; first | (simp at hp; done) | ((try simp at hp); first | (exfalso; omega) | skip))) | (apply awp_cond_any; rfl))
      all_goals try (exfalso; first | omega | contradiction)
      all_goals ((refine f_pure (rs := [.cell 2 25, .cell 3 35, .tmp 4, .tmp 5]) ?_; (repeat' (first | exact rzl_nil | apply rzl_cons | exact rz_pure rfl | exact rz_ex | exact z_os | apply rz_agg | apply rz_tup | apply rz_clo | apply rz_int | apply rz_bool | apply rz_str | refine z_eq ?_ | apply rz_sl)); all_goals trace_state))
  · rw [if_pos hz]
    generalize cliErr c = E at *
    refine acall_intro Tryz.func12 rfl _ Tryz.ntmps12 (Nat.le_of_ble_eq_true rfl) _ Tryz.results12 0 rfl rfl ?_
    repeat' (first | refine walk ?_ | (first | (apply to_call Tryz.func11 rfl rfl; intro hIsFn; refine o_callp hIsFn (h1 ..) ?_)) | ((first | (apply awp_cond; rfl)); all_goals (intro hc; have hp := hc; first | (simp at hp; done) | ((try simp at hp); first | (exfalso; omega) | skip))) | (apply awp_cond_any; rfl))
    all_goals try (exfalso; first | omega | contradiction)
    all_goals ((refine f_pure (rs := [.cell 2 25, .cell 3 35, .tmp 4, .tmp 5]) ?_; (repeat' (first | exact rzl_nil | apply rzl_cons | exact rz_pure rfl | exact rz_ex | exact z_os | apply rz_agg | apply rz_tup | apply rz_clo | apply rz_int | apply rz_bool | apply rz_str | refine z_eq ?_ | apply rz_sl)); all_goals trace_state))
end Go.Proofs.YtaoffekhpjgmdaaGreatDoor
