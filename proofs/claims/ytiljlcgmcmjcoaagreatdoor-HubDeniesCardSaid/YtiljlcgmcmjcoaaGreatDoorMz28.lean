import Derived.Test.YtiljlcgmcmjcoaaGreatDoorMz27
import Derived.Test.YtiljlcgmcmjcoaaGreatDoorMz21
import Derived.Test.YtiljlcgmcmjcoaaGreatDoorMz7
/- Hubs in the abstract layer, 7: serve; Serve. -/
set_option linter.unusedSimpArgs false
set_option linter.unnecessarySimpa false
set_option linter.unusedVariables false
set_option maxHeartbeats 1000000
namespace Go.Proofs.YtiljlcgmcmjcoaaGreatDoor
open Go.Ab Go.RowKit
set_option maxRecDepth 10000
attribute [local irreducible] Awp Ops OpsX Wanted Red ExOk Go.Ab.Fin ACall Rz RzL RzRows Enters ResOk RenV RenVL ArgV ArgVL
/-- serve, where it calls a method that answers so. -/
theorem s_kind (h : Hub) (r : Rqt) (hk : r.kind < 1 ∨ 8 < r.kind) : ACall C2h.P 45 [.op 0 0 0] (HS h r) (resA (zAns 0) 7) (HS h r) := by
  refine acall_intro (C := C2h) Tryz.func45 rfl _ Tryz.ntmps45 (Nat.le_of_ble_eq_true rfl) _ Tryz.results45 2 rfl rfl ?_
  repeat' (first | refine walk ?_ | (first | fail) | ((first | (apply ops_split_t; rfl; rfl; exact nle rfl) | (apply ops_split_f; rfl; rfl; exact nle rfl) | (apply awp_cond; rfl)); all_goals (intro hc; have hp := hc; first | (simp at hp; done) | ((try simp at hp); first | (exfalso; omega) | skip))) | (apply awp_cond_any; rfl))
  all_goals try (exfalso; first | omega | (rcases hk with hk | hk <;> simp_all <;> omega))
  all_goals ((apply fin_ownr (rs := [.cell 2 46, .tmp 3]) [] 2; (case hr => (repeat (first | exact resok_nil | (apply resok_tmp; rfl) | (apply resok_cell; rfl; rfl; rfl; rfl; rfl)))); (case hL => rfl); (case hh => (repeat' (first | exact hsok_nil | refine q_srow ?_ | refine q_dead ?_ | refine q_r ?_ | refine q_idx ?_ ?_)); all_goals rfl); (case hi => exact rfl); (case hz => first | rfl | (simp [pack, AV.ren, AV.ren.renL, lookN, getT, enumT]; done) | (simp [pack, AV.ren, AV.ren.renL, lookN, getT, enumT, *]; done) | trace_state)))
theorem s_noname (h : Hub) (r : Rqt) (rb : r.who.length ≤ 140737488355328) (hk : 1 ≤ r.kind ∧ r.kind ≤ 8) (hn : isName r.who = false) : ACall C2h.P 45 [.op 0 0 0] (HS h r) (resA (zAns 0) 1) (HS h r) := by
  have hw := g_isName r.who (str_lift rb)
  rw [hn] at hw
  refine acall_intro (C := C2h) Tryz.func45 rfl _ Tryz.ntmps45 (Nat.le_of_ble_eq_true rfl) _ Tryz.results45 2 rfl rfl ?_
  repeat' (first | refine walk ?_ | (first | (apply to_call Tryz.func37 rfl rfl; intro hIsFn; refine o_callf hIsFn (hw ..) ?_; skip)) | ((first | (apply ops_split_t; rfl; rfl; exact nle rfl) | (apply ops_split_f; rfl; rfl; exact nle rfl) | (apply awp_cond; rfl)); all_goals (intro hc; have hp := hc; first | (simp at hp; done) | ((try simp at hp); first | (exfalso; omega) | skip))) | (apply awp_cond_any; rfl))
  all_goals try (exfalso; omega)
  all_goals ((apply fin_ownr (rs := [.cell 2 46, .tmp 3]) [] 2; (case hr => (repeat (first | exact resok_nil | (apply resok_tmp; rfl) | (apply resok_cell; rfl; rfl; rfl; rfl; rfl)))); (case hL => rfl); (case hh => (repeat' (first | exact hsok_nil | refine q_srow ?_ | refine q_dead ?_ | refine q_r ?_ | refine q_idx ?_ ?_)); all_goals rfl); (case hi => exact rfl); (case hz => first | rfl | (simp [pack, AV.ren, AV.ren.renL, lookN, getT, enumT]; done) | (simp [pack, AV.ren, AV.ren.renL, lookN, getT, enumT, *]; done) | trace_state)))
def gAns (n : Int) (b : Bool) (x1 : Bool) (R1 : List (List AV)) (x2 : Bool) (R2 : List (List AV)) (c : Int) (m : Bool) : List AV := [.v (.int .i64 0), .v (.int .i64 n), .v (.bool b), .sl x1 R1, .sl x2 R2, .v (.int .i64 c), .v (.bool m)]
theorem v_create_ok (h h' : Hub) (r : Rqt) (rb : r.who.length ≤ 140737488355328) (hn : isName r.who = true) (hk : r.kind = 8) (rows : List (List AV)) (hpu : ∀ row, row ∈ rows → AV.pure.pureL row = true) (cs : List AV) (k : Nat) (hcp : AV.pure.pureL cs = true) (hc : ACall C2h.P 82 [.op 0 0 0] (HS h r) (resA (zAns 0) 0) [.own false 17 [.os 2 0 k :: cs], .dead, .own false 4 rows]) :
    ACall C2h.P 45 [.op 0 0 0] (HS h r) (resA (zAns 0) 0) [.own false 17 [.os 2 0 k :: cs], .dead, .own false 4 rows] := by
  have hw := g_isName r.who (str_lift rb)
  rw [hn] at hw
  obtain ⟨kind, who, folder, name, key, text, number, offset, base, chs⟩ := r
  dsimp only at *
  subst hk
  refine acall_intro (C := C2h) Tryz.func45 rfl _ Tryz.ntmps45 (Nat.le_of_ble_eq_true rfl) _ Tryz.results45 2 rfl rfl ?_
  repeat' (first | refine walk ?_ | (first | (apply to_call Tryz.func37 rfl rfl; intro hIsFn; refine o_callf hIsFn (hw ..) ?_; skip) | (apply to_call Tryz.func82 rfl rfl; intro hIsFn; refine o_callm [0, 1] [4] [(0, .own false 17 [.os 4 0 k :: cs]), (1, .dead), (4, .own false 4 rows)] 5 (resA (zAns 0) 0) hIsFn (hc) (by ((repeat' (first | exact argvl_nil | apply argvl_cons | exact argv_pure rfl | exact argv_ex | (apply argv_ren; apply ren_op; exact .inr (of_decide_eq_true rfl)) | (apply argv_ren; apply ren_mp; exact .inr (of_decide_eq_true rfl)) | (apply argv_ren; apply ren_os; exact .inr (of_decide_eq_true rfl)) | apply argv_agg | apply argv_clo))) <;> fail) (by ((repeat' (first | exact give_nil | exact back_nil | refine give_cons _ ?_ ?_ | refine back_cons ?_ ?_ | exact renhb_dead | exact renhb_mp (sideM_pure _) | exact renhb_mp (jk_pure _) | exact renhb_mp (goesM_pure _) | exact renhb_map (fun _ => rfl) | refine renhb_row ?_ | exact renl_nil | apply renl_cons | exact ren_pure rfl | (apply ren_mp; exact .inr (of_decide_eq_true rfl)) | (apply ren_os; exact .inr (of_decide_eq_true rfl)) | (apply ren_op; exact .inr (of_decide_eq_true rfl)) | fail))) <;> fail) (by ((repeat' (first | exact give_nil | exact back_nil | refine give_cons _ ?_ ?_ | refine back_cons ?_ ?_ | exact renhb_dead | exact renhb_mp (sideM_pure _) | exact renhb_mp (jk_pure _) | exact renhb_mp (goesM_pure _) | exact renhb_map (fun _ => rfl) | refine renhb_row ?_ | exact renl_nil | apply renl_cons | exact ren_pure rfl | (apply ren_mp; exact .inr (of_decide_eq_true rfl)) | (apply ren_os; exact .inr (of_decide_eq_true rfl)) | (apply ren_op; exact .inr (of_decide_eq_true rfl)) | first | exact renl_pures hcp | exact renhb_pure hpu))) <;> fail) ?_)) | ((first | (apply ops_split_t; rfl; rfl; exact nle rfl) | (apply ops_split_f; rfl; rfl; exact nle rfl) | (apply awp_cond; rfl)); all_goals (intro hc; have hp := hc; first | (simp at hp; done) | ((try simp at hp); first | (exfalso; omega) | skip))) | (apply awp_cond_any; rfl))
  all_goals try (exfalso; omega)
  apply fin_ownr (rs := [.cell 2 46, .tmp 3]) [(4, 2)] 3
  case hr => (repeat (first | exact resok_nil | (apply resok_tmp; rfl) | (apply resok_cell; rfl; rfl; rfl; rfl; rfl)))
  case hL => rfl
  case hh =>
    refine q_osrow ?_ (hc := hcp)
    refine hsok_dead 1 (maps_low rfl) ?_
    refine q_r ?_
    exact hsok_nil
  case hi => exact rfl
  case hz => first | rfl | trace_state
theorem v_create (h h' : Hub) (r : Rqt) (rb : r.who.length ≤ 140737488355328) (hn : isName r.who = true) (hk : r.kind = 8) (n : Int) (b : Bool) (x1 : Bool) (R1 : List (List AV)) (x2 : Bool) (R2 : List (List AV)) (c : Int) (m : Bool) (e : Int) (hc : ACall C2h.P 82 [.op 0 0 0] (HS h r) (resA (gAns n b x1 R1 x2 R2 c m) e) (HS h' r)) :
    ACall C2h.P 45 [.op 0 0 0] (HS h r) (resA (gAns n b x1 R1 x2 R2 c m) e) (HS h' r) := by
  have hw := g_isName r.who (str_lift rb)
  rw [hn] at hw
  obtain ⟨kind, who, folder, name, key, text, number, offset, base, chs⟩ := r
  dsimp only at *
  subst hk
  refine acall_intro (C := C2h) Tryz.func45 rfl _ Tryz.ntmps45 (Nat.le_of_ble_eq_true rfl) _ Tryz.results45 2 rfl rfl ?_
  repeat' (first | refine walk ?_ | (first | (apply to_call Tryz.func37 rfl rfl; intro hIsFn; refine o_callf hIsFn (hw ..) ?_; skip) | (apply to_call Tryz.func82 rfl rfl; intro hIsFn; refine o_call0 [0, 1] [(0, .own false 17 [srow 1 h' ⟨8, who, folder, name, key, text, number, offset, base, chs⟩]), (1, .own false 4 (h'.fols.map Fol.row))] (resA (gAns n b x1 R1 x2 R2 c m) e) hIsFn (hc) (by ((repeat' (first | exact argvl_nil | apply argvl_cons | exact argv_pure rfl | exact argv_ex | (apply argv_ren; apply ren_op; exact .inr (of_decide_eq_true rfl)) | (apply argv_ren; apply ren_mp; exact .inr (of_decide_eq_true rfl)) | (apply argv_ren; apply ren_os; exact .inr (of_decide_eq_true rfl)) | apply argv_agg | apply argv_clo))) <;> fail) (by ((repeat' (first | exact give_nil | exact back_nil | refine give_cons _ ?_ ?_ | refine back_cons ?_ ?_ | exact renhb_dead | exact renhb_mp (sideM_pure _) | exact renhb_mp (jk_pure _) | exact renhb_mp (goesM_pure _) | exact renhb_map (fun _ => rfl) | refine renhb_row ?_ | exact renl_nil | apply renl_cons | exact ren_pure rfl | (apply ren_mp; exact .inr (of_decide_eq_true rfl)) | (apply ren_os; exact .inr (of_decide_eq_true rfl)) | (apply ren_op; exact .inr (of_decide_eq_true rfl)) | fail))) <;> fail) (by ((repeat' (first | exact give_nil | exact back_nil | refine give_cons _ ?_ ?_ | refine back_cons ?_ ?_ | exact renhb_dead | exact renhb_mp (sideM_pure _) | exact renhb_mp (jk_pure _) | exact renhb_mp (goesM_pure _) | exact renhb_map (fun _ => rfl) | refine renhb_row ?_ | exact renl_nil | apply renl_cons | exact ren_pure rfl | (apply ren_mp; exact .inr (of_decide_eq_true rfl)) | (apply ren_os; exact .inr (of_decide_eq_true rfl)) | (apply ren_op; exact .inr (of_decide_eq_true rfl)) | skip))) <;> fail) ?_)) | ((first | (apply ops_split_t; rfl; rfl; exact nle rfl) | (apply ops_split_f; rfl; rfl; exact nle rfl) | (apply awp_cond; rfl)); all_goals (intro hc; have hp := hc; first | (simp at hp; done) | ((try simp at hp); first | (exfalso; omega) | skip))) | (apply awp_cond_any; rfl))
  all_goals try (exfalso; omega)
  (apply fin_ownr (rs := [.cell 2 46, .tmp 3]) [] 2; (case hr => (repeat (first | exact resok_nil | (apply resok_tmp; rfl) | (apply resok_cell; rfl; rfl; rfl; rfl; rfl)))); (case hL => rfl); (case hh => (repeat' (first | exact hsok_nil | refine q_srow ?_ | refine q_dead ?_ | refine q_r ?_ | refine q_idx ?_ ?_)); all_goals rfl); (case hi => exact rfl); (case hz => first | rfl | (simp [pack, AV.ren, AV.ren.renL, lookN, getT, enumT]; done) | (simp [pack, AV.ren, AV.ren.renL, lookN, getT, enumT, *]; done) | trace_state))
theorem v_give (h h' : Hub) (r : Rqt) (rb : r.who.length ≤ 140737488355328) (hn : isName r.who = true) (hk : r.kind = 3) (n : Int) (b : Bool) (x1 : Bool) (R1 : List (List AV)) (x2 : Bool) (R2 : List (List AV)) (c : Int) (m : Bool) (e : Int) (hc : ACall C2h.P 83 [.op 0 0 0] (HS h r) (resA (gAns n b x1 R1 x2 R2 c m) e) (HS h' r)) :
    ACall C2h.P 45 [.op 0 0 0] (HS h r) (resA (gAns n b x1 R1 x2 R2 c m) e) (HS h' r) := by
  have hw := g_isName r.who (str_lift rb)
  rw [hn] at hw
  obtain ⟨kind, who, folder, name, key, text, number, offset, base, chs⟩ := r
  dsimp only at *
  subst hk
  refine acall_intro (C := C2h) Tryz.func45 rfl _ Tryz.ntmps45 (Nat.le_of_ble_eq_true rfl) _ Tryz.results45 2 rfl rfl ?_
  repeat' (first | refine walk ?_ | (first | (apply to_call Tryz.func37 rfl rfl; intro hIsFn; refine o_callf hIsFn (hw ..) ?_; skip) | (apply to_call Tryz.func83 rfl rfl; intro hIsFn; refine o_call0 [0, 1] [(0, .own false 17 [srow 1 h' ⟨3, who, folder, name, key, text, number, offset, base, chs⟩]), (1, .own false 4 (h'.fols.map Fol.row))] (resA (gAns n b x1 R1 x2 R2 c m) e) hIsFn (hc) (by ((repeat' (first | exact argvl_nil | apply argvl_cons | exact argv_pure rfl | exact argv_ex | (apply argv_ren; apply ren_op; exact .inr (of_decide_eq_true rfl)) | (apply argv_ren; apply ren_mp; exact .inr (of_decide_eq_true rfl)) | (apply argv_ren; apply ren_os; exact .inr (of_decide_eq_true rfl)) | apply argv_agg | apply argv_clo))) <;> fail) (by ((repeat' (first | exact give_nil | exact back_nil | refine give_cons _ ?_ ?_ | refine back_cons ?_ ?_ | exact renhb_dead | exact renhb_mp (sideM_pure _) | exact renhb_mp (jk_pure _) | exact renhb_mp (goesM_pure _) | exact renhb_map (fun _ => rfl) | refine renhb_row ?_ | exact renl_nil | apply renl_cons | exact ren_pure rfl | (apply ren_mp; exact .inr (of_decide_eq_true rfl)) | (apply ren_os; exact .inr (of_decide_eq_true rfl)) | (apply ren_op; exact .inr (of_decide_eq_true rfl)) | fail))) <;> fail) (by ((repeat' (first | exact give_nil | exact back_nil | refine give_cons _ ?_ ?_ | refine back_cons ?_ ?_ | exact renhb_dead | exact renhb_mp (sideM_pure _) | exact renhb_mp (jk_pure _) | exact renhb_mp (goesM_pure _) | exact renhb_map (fun _ => rfl) | refine renhb_row ?_ | exact renl_nil | apply renl_cons | exact ren_pure rfl | (apply ren_mp; exact .inr (of_decide_eq_true rfl)) | (apply ren_os; exact .inr (of_decide_eq_true rfl)) | (apply ren_op; exact .inr (of_decide_eq_true rfl)) | skip))) <;> fail) ?_)) | ((first | (apply ops_split_t; rfl; rfl; exact nle rfl) | (apply ops_split_f; rfl; rfl; exact nle rfl) | (apply awp_cond; rfl)); all_goals (intro hc; have hp := hc; first | (simp at hp; done) | ((try simp at hp); first | (exfalso; omega) | skip))) | (apply awp_cond_any; rfl))
  all_goals try (exfalso; omega)
  (apply fin_ownr (rs := [.cell 2 46, .tmp 3]) [] 2; (case hr => (repeat (first | exact resok_nil | (apply resok_tmp; rfl) | (apply resok_cell; rfl; rfl; rfl; rfl; rfl)))); (case hL => rfl); (case hh => (repeat' (first | exact hsok_nil | refine q_srow ?_ | refine q_dead ?_ | refine q_r ?_ | refine q_idx ?_ ?_)); all_goals rfl); (case hi => exact rfl); (case hz => first | rfl | (simp [pack, AV.ren, AV.ren.renL, lookN, getT, enumT]; done) | (simp [pack, AV.ren, AV.ren.renL, lookN, getT, enumT, *]; done) | trace_state))
theorem v_page (h h' : Hub) (r : Rqt) (rb : r.who.length ≤ 140737488355328) (hn : isName r.who = true) (hk : r.kind = 2) (n : Int) (b : Bool) (x1 : Bool) (R1 : List (List AV)) (x2 : Bool) (R2 : List (List AV)) (c : Int) (m : Bool) (e : Int) (hc : ACall C2h.P 84 [.op 0 0 0] (HS h r) (resA (gAns n b x1 R1 x2 R2 c m) e) (HS h' r)) :
    ACall C2h.P 45 [.op 0 0 0] (HS h r) (resA (gAns n b x1 R1 x2 R2 c m) e) (HS h' r) := by
  have hw := g_isName r.who (str_lift rb)
  rw [hn] at hw
  obtain ⟨kind, who, folder, name, key, text, number, offset, base, chs⟩ := r
  dsimp only at *
  subst hk
  refine acall_intro (C := C2h) Tryz.func45 rfl _ Tryz.ntmps45 (Nat.le_of_ble_eq_true rfl) _ Tryz.results45 2 rfl rfl ?_
  repeat' (first | refine walk ?_ | (first | (apply to_call Tryz.func37 rfl rfl; intro hIsFn; refine o_callf hIsFn (hw ..) ?_; skip) | (apply to_call Tryz.func84 rfl rfl; intro hIsFn; refine o_call0 [0, 1] [(0, .own false 17 [srow 1 h' ⟨2, who, folder, name, key, text, number, offset, base, chs⟩]), (1, .own false 4 (h'.fols.map Fol.row))] (resA (gAns n b x1 R1 x2 R2 c m) e) hIsFn (hc) (by ((repeat' (first | exact argvl_nil | apply argvl_cons | exact argv_pure rfl | exact argv_ex | (apply argv_ren; apply ren_op; exact .inr (of_decide_eq_true rfl)) | (apply argv_ren; apply ren_mp; exact .inr (of_decide_eq_true rfl)) | (apply argv_ren; apply ren_os; exact .inr (of_decide_eq_true rfl)) | apply argv_agg | apply argv_clo))) <;> fail) (by ((repeat' (first | exact give_nil | exact back_nil | refine give_cons _ ?_ ?_ | refine back_cons ?_ ?_ | exact renhb_dead | exact renhb_mp (sideM_pure _) | exact renhb_mp (jk_pure _) | exact renhb_mp (goesM_pure _) | exact renhb_map (fun _ => rfl) | refine renhb_row ?_ | exact renl_nil | apply renl_cons | exact ren_pure rfl | (apply ren_mp; exact .inr (of_decide_eq_true rfl)) | (apply ren_os; exact .inr (of_decide_eq_true rfl)) | (apply ren_op; exact .inr (of_decide_eq_true rfl)) | fail))) <;> fail) (by ((repeat' (first | exact give_nil | exact back_nil | refine give_cons _ ?_ ?_ | refine back_cons ?_ ?_ | exact renhb_dead | exact renhb_mp (sideM_pure _) | exact renhb_mp (jk_pure _) | exact renhb_mp (goesM_pure _) | exact renhb_map (fun _ => rfl) | refine renhb_row ?_ | exact renl_nil | apply renl_cons | exact ren_pure rfl | (apply ren_mp; exact .inr (of_decide_eq_true rfl)) | (apply ren_os; exact .inr (of_decide_eq_true rfl)) | (apply ren_op; exact .inr (of_decide_eq_true rfl)) | skip))) <;> fail) ?_)) | ((first | (apply ops_split_t; rfl; rfl; exact nle rfl) | (apply ops_split_f; rfl; rfl; exact nle rfl) | (apply awp_cond; rfl)); all_goals (intro hc; have hp := hc; first | (simp at hp; done) | ((try simp at hp); first | (exfalso; omega) | skip))) | (apply awp_cond_any; rfl))
  all_goals try (exfalso; omega)
  (apply fin_ownr (rs := [.cell 2 46, .tmp 3]) [] 2; (case hr => (repeat (first | exact resok_nil | (apply resok_tmp; rfl) | (apply resok_cell; rfl; rfl; rfl; rfl; rfl)))); (case hL => rfl); (case hh => (repeat' (first | exact hsok_nil | refine q_srow ?_ | refine q_dead ?_ | refine q_r ?_ | refine q_idx ?_ ?_)); all_goals rfl); (case hi => exact rfl); (case hz => first | rfl | (simp [pack, AV.ren, AV.ren.renL, lookN, getT, enumT]; done) | (simp [pack, AV.ren, AV.ren.renL, lookN, getT, enumT, *]; done) | trace_state))
theorem v_finish (h h' : Hub) (r : Rqt) (rb : r.who.length ≤ 140737488355328) (hn : isName r.who = true) (hk : r.kind = 7) (n : Int) (b : Bool) (x1 : Bool) (R1 : List (List AV)) (x2 : Bool) (R2 : List (List AV)) (c : Int) (m : Bool) (e : Int) (hc : ACall C2h.P 90 [.op 0 0 0] (HS h r) (resA (gAns n b x1 R1 x2 R2 c m) e) (HS h' r)) (hm : ACall C2h.P 89 [.op 0 0 0, .v (.int .i64 2)] (HS h r) (.v (.int .i64 0)) (HS h r)) :
    ACall C2h.P 45 [.op 0 0 0] (HS h r) (resA (gAns n b x1 R1 x2 R2 c m) e) (HS h' r) := by
  have hw := g_isName r.who (str_lift rb)
  rw [hn] at hw
  obtain ⟨kind, who, folder, name, key, text, number, offset, base, chs⟩ := r
  dsimp only at *
  subst hk
  refine acall_intro (C := C2h) Tryz.func45 rfl _ Tryz.ntmps45 (Nat.le_of_ble_eq_true rfl) _ Tryz.results45 2 rfl rfl ?_
  repeat' (first | refine walk ?_ | (first | (apply to_call Tryz.func37 rfl rfl; intro hIsFn; refine o_callf hIsFn (hw ..) ?_; skip) | (apply to_call Tryz.func90 rfl rfl; intro hIsFn; refine o_call0 [0, 1] [(0, .own false 17 [srow 1 h' ⟨7, who, folder, name, key, text, number, offset, base, chs⟩]), (1, .own false 4 (h'.fols.map Fol.row))] (resA (gAns n b x1 R1 x2 R2 c m) e) hIsFn (hc) (by ((repeat' (first | exact argvl_nil | apply argvl_cons | exact argv_pure rfl | exact argv_ex | (apply argv_ren; apply ren_op; exact .inr (of_decide_eq_true rfl)) | (apply argv_ren; apply ren_mp; exact .inr (of_decide_eq_true rfl)) | (apply argv_ren; apply ren_os; exact .inr (of_decide_eq_true rfl)) | apply argv_agg | apply argv_clo))) <;> fail) (by ((repeat' (first | exact give_nil | exact back_nil | refine give_cons _ ?_ ?_ | refine back_cons ?_ ?_ | exact renhb_dead | exact renhb_mp (sideM_pure _) | exact renhb_mp (jk_pure _) | exact renhb_mp (goesM_pure _) | exact renhb_map (fun _ => rfl) | refine renhb_row ?_ | exact renl_nil | apply renl_cons | exact ren_pure rfl | (apply ren_mp; exact .inr (of_decide_eq_true rfl)) | (apply ren_os; exact .inr (of_decide_eq_true rfl)) | (apply ren_op; exact .inr (of_decide_eq_true rfl)) | fail))) <;> fail) (by ((repeat' (first | exact give_nil | exact back_nil | refine give_cons _ ?_ ?_ | refine back_cons ?_ ?_ | exact renhb_dead | exact renhb_mp (sideM_pure _) | exact renhb_mp (jk_pure _) | exact renhb_mp (goesM_pure _) | exact renhb_map (fun _ => rfl) | refine renhb_row ?_ | exact renl_nil | apply renl_cons | exact ren_pure rfl | (apply ren_mp; exact .inr (of_decide_eq_true rfl)) | (apply ren_os; exact .inr (of_decide_eq_true rfl)) | (apply ren_op; exact .inr (of_decide_eq_true rfl)) | skip))) <;> fail) ?_) | (apply to_call Tryz.func89 rfl rfl; intro hIsFn; refine o_call0 [0, 1] [(0, .own false 17 [srow 1 h ⟨7, who, folder, name, key, text, number, offset, base, chs⟩]), (1, .own false 4 (h.fols.map Fol.row))] (.v (.int .i64 (0))) hIsFn (hm) (by ((repeat' (first | exact argvl_nil | apply argvl_cons | exact argv_pure rfl | exact argv_ex | (apply argv_ren; apply ren_op; exact .inr (of_decide_eq_true rfl)) | (apply argv_ren; apply ren_mp; exact .inr (of_decide_eq_true rfl)) | (apply argv_ren; apply ren_os; exact .inr (of_decide_eq_true rfl)) | apply argv_agg | apply argv_clo))) <;> fail) (by ((repeat' (first | exact give_nil | exact back_nil | refine give_cons _ ?_ ?_ | refine back_cons ?_ ?_ | exact renhb_dead | exact renhb_mp (sideM_pure _) | exact renhb_mp (jk_pure _) | exact renhb_mp (goesM_pure _) | exact renhb_map (fun _ => rfl) | refine renhb_row ?_ | exact renl_nil | apply renl_cons | exact ren_pure rfl | (apply ren_mp; exact .inr (of_decide_eq_true rfl)) | (apply ren_os; exact .inr (of_decide_eq_true rfl)) | (apply ren_op; exact .inr (of_decide_eq_true rfl)) | fail))) <;> fail) (by ((repeat' (first | exact give_nil | exact back_nil | refine give_cons _ ?_ ?_ | refine back_cons ?_ ?_ | exact renhb_dead | exact renhb_mp (sideM_pure _) | exact renhb_mp (jk_pure _) | exact renhb_mp (goesM_pure _) | exact renhb_map (fun _ => rfl) | refine renhb_row ?_ | exact renl_nil | apply renl_cons | exact ren_pure rfl | (apply ren_mp; exact .inr (of_decide_eq_true rfl)) | (apply ren_os; exact .inr (of_decide_eq_true rfl)) | (apply ren_op; exact .inr (of_decide_eq_true rfl)) | skip))) <;> fail) ?_)) | ((first | (apply ops_split_t; rfl; rfl; exact nle rfl) | (apply ops_split_f; rfl; rfl; exact nle rfl) | (apply awp_cond; rfl)); all_goals (intro hc; have hp := hc; first | (simp at hp; done) | ((try simp at hp); first | (exfalso; omega) | skip))) | (apply awp_cond_any; rfl))
  all_goals try (exfalso; omega)
  (apply fin_ownr (rs := [.cell 2 46, .tmp 3]) [] 2; (case hr => (repeat (first | exact resok_nil | (apply resok_tmp; rfl) | (apply resok_cell; rfl; rfl; rfl; rfl; rfl)))); (case hL => rfl); (case hh => (repeat' (first | exact hsok_nil | refine q_srow ?_ | refine q_dead ?_ | refine q_r ?_ | refine q_idx ?_ ?_)); all_goals rfl); (case hi => exact rfl); (case hz => first | rfl | (simp [pack, AV.ren, AV.ren.renL, lookN, getT, enumT]; done) | (simp [pack, AV.ren, AV.ren.renL, lookN, getT, enumT, *]; done) | trace_state))
theorem v_commit (h h' : Hub) (r : Rqt) (rb : r.who.length ≤ 140737488355328) (hn : isName r.who = true) (hk : r.kind = 1) (n : Int) (b : Bool) (x1 : Bool) (R1 : List (List AV)) (x2 : Bool) (R2 : List (List AV)) (c : Int) (m : Bool) (e : Int) (hc : ACall C2h.P 91 [.op 0 0 0, chgAV r.chs] (HS h r) (resA (gAns n b x1 R1 x2 R2 c m) e) (HS h' r)) (hm : ACall C2h.P 89 [.op 0 0 0, .v (.int .i64 2)] (HS h r) (.v (.int .i64 0)) (HS h r)) :
    ACall C2h.P 45 [.op 0 0 0] (HS h r) (resA (gAns n b x1 R1 x2 R2 c m) e) (HS h' r) := by
  have hw := g_isName r.who (str_lift rb)
  rw [hn] at hw
  obtain ⟨kind, who, folder, name, key, text, number, offset, base, chs⟩ := r
  dsimp only at *
  subst hk
  refine acall_intro (C := C2h) Tryz.func45 rfl _ Tryz.ntmps45 (Nat.le_of_ble_eq_true rfl) _ Tryz.results45 2 rfl rfl ?_
  repeat' (first | refine walk ?_ | (first | (apply to_call Tryz.func37 rfl rfl; intro hIsFn; refine o_callf hIsFn (hw ..) ?_; skip) | (apply to_call Tryz.func91 rfl rfl; intro hIsFn; refine o_call0 [0, 1] [(0, .own false 17 [srow 1 h' ⟨1, who, folder, name, key, text, number, offset, base, chs⟩]), (1, .own false 4 (h'.fols.map Fol.row))] (resA (gAns n b x1 R1 x2 R2 c m) e) hIsFn (hc) (by ((repeat' (first | exact argvl_nil | apply argvl_cons | exact argv_pure rfl | exact argv_ex | (apply argv_ren; apply ren_op; exact .inr (of_decide_eq_true rfl)) | (apply argv_ren; apply ren_mp; exact .inr (of_decide_eq_true rfl)) | (apply argv_ren; apply ren_os; exact .inr (of_decide_eq_true rfl)) | apply argv_agg | apply argv_clo))) <;> fail) (by ((repeat' (first | exact give_nil | exact back_nil | refine give_cons _ ?_ ?_ | refine back_cons ?_ ?_ | exact renhb_dead | exact renhb_mp (sideM_pure _) | exact renhb_mp (jk_pure _) | exact renhb_mp (goesM_pure _) | exact renhb_map (fun _ => rfl) | refine renhb_row ?_ | exact renl_nil | apply renl_cons | exact ren_pure rfl | (apply ren_mp; exact .inr (of_decide_eq_true rfl)) | (apply ren_os; exact .inr (of_decide_eq_true rfl)) | (apply ren_op; exact .inr (of_decide_eq_true rfl)) | fail))) <;> fail) (by ((repeat' (first | exact give_nil | exact back_nil | refine give_cons _ ?_ ?_ | refine back_cons ?_ ?_ | exact renhb_dead | exact renhb_mp (sideM_pure _) | exact renhb_mp (jk_pure _) | exact renhb_mp (goesM_pure _) | exact renhb_map (fun _ => rfl) | refine renhb_row ?_ | exact renl_nil | apply renl_cons | exact ren_pure rfl | (apply ren_mp; exact .inr (of_decide_eq_true rfl)) | (apply ren_os; exact .inr (of_decide_eq_true rfl)) | (apply ren_op; exact .inr (of_decide_eq_true rfl)) | skip))) <;> fail) ?_) | (apply to_call Tryz.func89 rfl rfl; intro hIsFn; refine o_call0 [0, 1] [(0, .own false 17 [srow 1 h ⟨1, who, folder, name, key, text, number, offset, base, chs⟩]), (1, .own false 4 (h.fols.map Fol.row))] (.v (.int .i64 (0))) hIsFn (hm) (by ((repeat' (first | exact argvl_nil | apply argvl_cons | exact argv_pure rfl | exact argv_ex | (apply argv_ren; apply ren_op; exact .inr (of_decide_eq_true rfl)) | (apply argv_ren; apply ren_mp; exact .inr (of_decide_eq_true rfl)) | (apply argv_ren; apply ren_os; exact .inr (of_decide_eq_true rfl)) | apply argv_agg | apply argv_clo))) <;> fail) (by ((repeat' (first | exact give_nil | exact back_nil | refine give_cons _ ?_ ?_ | refine back_cons ?_ ?_ | exact renhb_dead | exact renhb_mp (sideM_pure _) | exact renhb_mp (jk_pure _) | exact renhb_mp (goesM_pure _) | exact renhb_map (fun _ => rfl) | refine renhb_row ?_ | exact renl_nil | apply renl_cons | exact ren_pure rfl | (apply ren_mp; exact .inr (of_decide_eq_true rfl)) | (apply ren_os; exact .inr (of_decide_eq_true rfl)) | (apply ren_op; exact .inr (of_decide_eq_true rfl)) | fail))) <;> fail) (by ((repeat' (first | exact give_nil | exact back_nil | refine give_cons _ ?_ ?_ | refine back_cons ?_ ?_ | exact renhb_dead | exact renhb_mp (sideM_pure _) | exact renhb_mp (jk_pure _) | exact renhb_mp (goesM_pure _) | exact renhb_map (fun _ => rfl) | refine renhb_row ?_ | exact renl_nil | apply renl_cons | exact ren_pure rfl | (apply ren_mp; exact .inr (of_decide_eq_true rfl)) | (apply ren_os; exact .inr (of_decide_eq_true rfl)) | (apply ren_op; exact .inr (of_decide_eq_true rfl)) | skip))) <;> fail) ?_)) | ((first | (apply ops_split_t; rfl; rfl; exact nle rfl) | (apply ops_split_f; rfl; rfl; exact nle rfl) | (apply awp_cond; rfl)); all_goals (intro hc; have hp := hc; first | (simp at hp; done) | ((try simp at hp); first | (exfalso; omega) | skip))) | (apply awp_cond_any; rfl))
  all_goals try (exfalso; omega)
  (apply fin_ownr (rs := [.cell 2 46, .tmp 3]) [] 2; (case hr => (repeat (first | exact resok_nil | (apply resok_tmp; rfl) | (apply resok_cell; rfl; rfl; rfl; rfl; rfl)))); (case hL => rfl); (case hh => (repeat' (first | exact hsok_nil | refine q_srow ?_ | refine q_dead ?_ | refine q_r ?_ | refine q_idx ?_ ?_)); all_goals rfl); (case hi => exact rfl); (case hz => first | rfl | (simp [pack, AV.ren, AV.ren.renL, lookN, getT, enumT]; done) | (simp [pack, AV.ren, AV.ren.renL, lookN, getT, enumT, *]; done) | trace_state))
theorem v_low1 (h : Hub) (r : Rqt) (rb : r.who.length ≤ 140737488355328) (hn : isName r.who = true) (hk : r.kind = 1) (hm : ACall C2h.P 89 [.op 0 0 0, .v (.int .i64 2)] (HS h r) (.v (.int .i64 9)) (HS h r)) :
    ACall C2h.P 45 [.op 0 0 0] (HS h r) (resA (zAns 0) 9) (HS h r) := by
  have hw := g_isName r.who (str_lift rb)
  rw [hn] at hw
  obtain ⟨kind, who, folder, name, key, text, number, offset, base, chs⟩ := r
  dsimp only at *
  subst hk
  refine acall_intro (C := C2h) Tryz.func45 rfl _ Tryz.ntmps45 (Nat.le_of_ble_eq_true rfl) _ Tryz.results45 2 rfl rfl ?_
  repeat' (first | refine walk ?_ | (first | (apply to_call Tryz.func37 rfl rfl; intro hIsFn; refine o_callf hIsFn (hw ..) ?_; skip) | (apply to_call Tryz.func89 rfl rfl; intro hIsFn; refine o_call0 [0, 1] [(0, .own false 17 [srow 1 h ⟨1, who, folder, name, key, text, number, offset, base, chs⟩]), (1, .own false 4 (h.fols.map Fol.row))] (.v (.int .i64 (9))) hIsFn (hm) (by ((repeat' (first | exact argvl_nil | apply argvl_cons | exact argv_pure rfl | exact argv_ex | (apply argv_ren; apply ren_op; exact .inr (of_decide_eq_true rfl)) | (apply argv_ren; apply ren_mp; exact .inr (of_decide_eq_true rfl)) | (apply argv_ren; apply ren_os; exact .inr (of_decide_eq_true rfl)) | apply argv_agg | apply argv_clo))) <;> fail) (by ((repeat' (first | exact give_nil | exact back_nil | refine give_cons _ ?_ ?_ | refine back_cons ?_ ?_ | exact renhb_dead | exact renhb_mp (sideM_pure _) | exact renhb_mp (jk_pure _) | exact renhb_mp (goesM_pure _) | exact renhb_map (fun _ => rfl) | refine renhb_row ?_ | exact renl_nil | apply renl_cons | exact ren_pure rfl | (apply ren_mp; exact .inr (of_decide_eq_true rfl)) | (apply ren_os; exact .inr (of_decide_eq_true rfl)) | (apply ren_op; exact .inr (of_decide_eq_true rfl)) | fail))) <;> fail) (by ((repeat' (first | exact give_nil | exact back_nil | refine give_cons _ ?_ ?_ | refine back_cons ?_ ?_ | exact renhb_dead | exact renhb_mp (sideM_pure _) | exact renhb_mp (jk_pure _) | exact renhb_mp (goesM_pure _) | exact renhb_map (fun _ => rfl) | refine renhb_row ?_ | exact renl_nil | apply renl_cons | exact ren_pure rfl | (apply ren_mp; exact .inr (of_decide_eq_true rfl)) | (apply ren_os; exact .inr (of_decide_eq_true rfl)) | (apply ren_op; exact .inr (of_decide_eq_true rfl)) | skip))) <;> fail) ?_)) | ((first | (apply ops_split_t; rfl; rfl; exact nle rfl) | (apply ops_split_f; rfl; rfl; exact nle rfl) | (apply awp_cond; rfl)); all_goals (intro hc; have hp := hc; first | (simp at hp; done) | ((try simp at hp); first | (exfalso; omega) | skip))) | (apply awp_cond_any; rfl))
  all_goals try (exfalso; omega)
  (apply fin_ownr (rs := [.cell 2 46, .tmp 3]) [] 2; (case hr => (repeat (first | exact resok_nil | (apply resok_tmp; rfl) | (apply resok_cell; rfl; rfl; rfl; rfl; rfl)))); (case hL => rfl); (case hh => (repeat' (first | exact hsok_nil | refine q_srow ?_ | refine q_dead ?_ | refine q_r ?_ | refine q_idx ?_ ?_)); all_goals rfl); (case hi => exact rfl); (case hz => first | rfl | (simp [pack, AV.ren, AV.ren.renL, lookN, getT, enumT]; done) | (simp [pack, AV.ren, AV.ren.renL, lookN, getT, enumT, *]; done) | trace_state))
theorem v_low7 (h : Hub) (r : Rqt) (rb : r.who.length ≤ 140737488355328) (hn : isName r.who = true) (hk : r.kind = 7) (hm : ACall C2h.P 89 [.op 0 0 0, .v (.int .i64 2)] (HS h r) (.v (.int .i64 9)) (HS h r)) :
    ACall C2h.P 45 [.op 0 0 0] (HS h r) (resA (zAns 0) 9) (HS h r) := by
  have hw := g_isName r.who (str_lift rb)
  rw [hn] at hw
  obtain ⟨kind, who, folder, name, key, text, number, offset, base, chs⟩ := r
  dsimp only at *
  subst hk
  refine acall_intro (C := C2h) Tryz.func45 rfl _ Tryz.ntmps45 (Nat.le_of_ble_eq_true rfl) _ Tryz.results45 2 rfl rfl ?_
  repeat' (first | refine walk ?_ | (first | (apply to_call Tryz.func37 rfl rfl; intro hIsFn; refine o_callf hIsFn (hw ..) ?_; skip) | (apply to_call Tryz.func89 rfl rfl; intro hIsFn; refine o_call0 [0, 1] [(0, .own false 17 [srow 1 h ⟨7, who, folder, name, key, text, number, offset, base, chs⟩]), (1, .own false 4 (h.fols.map Fol.row))] (.v (.int .i64 (9))) hIsFn (hm) (by ((repeat' (first | exact argvl_nil | apply argvl_cons | exact argv_pure rfl | exact argv_ex | (apply argv_ren; apply ren_op; exact .inr (of_decide_eq_true rfl)) | (apply argv_ren; apply ren_mp; exact .inr (of_decide_eq_true rfl)) | (apply argv_ren; apply ren_os; exact .inr (of_decide_eq_true rfl)) | apply argv_agg | apply argv_clo))) <;> fail) (by ((repeat' (first | exact give_nil | exact back_nil | refine give_cons _ ?_ ?_ | refine back_cons ?_ ?_ | exact renhb_dead | exact renhb_mp (sideM_pure _) | exact renhb_mp (jk_pure _) | exact renhb_mp (goesM_pure _) | exact renhb_map (fun _ => rfl) | refine renhb_row ?_ | exact renl_nil | apply renl_cons | exact ren_pure rfl | (apply ren_mp; exact .inr (of_decide_eq_true rfl)) | (apply ren_os; exact .inr (of_decide_eq_true rfl)) | (apply ren_op; exact .inr (of_decide_eq_true rfl)) | fail))) <;> fail) (by ((repeat' (first | exact give_nil | exact back_nil | refine give_cons _ ?_ ?_ | refine back_cons ?_ ?_ | exact renhb_dead | exact renhb_mp (sideM_pure _) | exact renhb_mp (jk_pure _) | exact renhb_mp (goesM_pure _) | exact renhb_map (fun _ => rfl) | refine renhb_row ?_ | exact renl_nil | apply renl_cons | exact ren_pure rfl | (apply ren_mp; exact .inr (of_decide_eq_true rfl)) | (apply ren_os; exact .inr (of_decide_eq_true rfl)) | (apply ren_op; exact .inr (of_decide_eq_true rfl)) | skip))) <;> fail) ?_)) | ((first | (apply ops_split_t; rfl; rfl; exact nle rfl) | (apply ops_split_f; rfl; rfl; exact nle rfl) | (apply awp_cond; rfl)); all_goals (intro hc; have hp := hc; first | (simp at hp; done) | ((try simp at hp); first | (exfalso; omega) | skip))) | (apply awp_cond_any; rfl))
  all_goals try (exfalso; omega)
  (apply fin_ownr (rs := [.cell 2 46, .tmp 3]) [] 2; (case hr => (repeat (first | exact resok_nil | (apply resok_tmp; rfl) | (apply resok_cell; rfl; rfl; rfl; rfl; rfl)))); (case hL => rfl); (case hh => (repeat' (first | exact hsok_nil | refine q_srow ?_ | refine q_dead ?_ | refine q_r ?_ | refine q_idx ?_ ?_)); all_goals rfl); (case hi => exact rfl); (case hz => first | rfl | (simp [pack, AV.ren, AV.ren.renL, lookN, getT, enumT]; done) | (simp [pack, AV.ren, AV.ren.renL, lookN, getT, enumT, *]; done) | trace_state))
theorem v_open (h : Hub) (hu : UBig h.ups) (r : Rqt) (rb : r.who.length ≤ 140737488355328) (hn : isName r.who = true) (hk : r.kind = 4) :
    ACall C2h.P 45 [.op 0 0 0] (HS h r) (resA (zAns (opnR h.ups r.who r.number h.now).2.1) (opnR h.ups r.who r.number h.now).2.2) (HS (if (opnR h.ups r.who r.number h.now).2.2 = 0 then { h with ups := (opnR h.ups r.who r.number h.now).1 } else h) r) := by
  have ho := h_open h.ups hu r.who rb r.number h.now
  have hs := s_uploads h r (opnR h.ups r.who r.number h.now).1 (opnR h.ups r.who r.number h.now).2.1 (opnR h.ups r.who r.number h.now).2.2
  have hw := g_isName r.who (str_lift rb)
  rw [hn] at hw
  obtain ⟨kind, who, folder, name, key, text, number, offset, base, chs⟩ := r
  dsimp only at *
  subst hk
  generalize opnR h.ups who number h.now = P at *
  obtain ⟨u, n, e⟩ := P
  dsimp only at *
  generalize (if e = 0 then ({ h with ups := u } : Hub) else h) = h' at *
  refine acall_intro (C := C2h) Tryz.func45 rfl _ Tryz.ntmps45 (Nat.le_of_ble_eq_true rfl) _ Tryz.results45 2 rfl rfl ?_
  repeat' (first | refine walk ?_ | (first | (apply to_call Tryz.func37 rfl rfl; intro hIsFn; refine o_callf hIsFn (hw ..) ?_; skip) | (apply to_call Tryz.func86 rfl rfl; intro hIsFn; refine o_callp hIsFn (ho ..) ?_) | (apply to_call Tryz.func85 rfl rfl; intro hIsFn; refine o_call0 [0, 1] [(0, .own false 17 [srow 1 h' ⟨4, who, folder, name, key, text, number, offset, base, chs⟩]), (1, .own false 4 (h'.fols.map Fol.row))] (resA (zAns n) e) hIsFn (hs) (by ((repeat' (first | exact argvl_nil | apply argvl_cons | exact argv_pure rfl | exact argv_ex | (apply argv_ren; apply ren_op; exact .inr (of_decide_eq_true rfl)) | (apply argv_ren; apply ren_mp; exact .inr (of_decide_eq_true rfl)) | (apply argv_ren; apply ren_os; exact .inr (of_decide_eq_true rfl)) | apply argv_agg | apply argv_clo))) <;> fail) (by ((repeat' (first | exact give_nil | exact back_nil | refine give_cons _ ?_ ?_ | refine back_cons ?_ ?_ | exact renhb_dead | exact renhb_mp (sideM_pure _) | exact renhb_mp (jk_pure _) | exact renhb_mp (goesM_pure _) | exact renhb_map (fun _ => rfl) | refine renhb_row ?_ | exact renl_nil | apply renl_cons | exact ren_pure rfl | (apply ren_mp; exact .inr (of_decide_eq_true rfl)) | (apply ren_os; exact .inr (of_decide_eq_true rfl)) | (apply ren_op; exact .inr (of_decide_eq_true rfl)) | fail))) <;> fail) (by ((repeat' (first | exact give_nil | exact back_nil | refine give_cons _ ?_ ?_ | refine back_cons ?_ ?_ | exact renhb_dead | exact renhb_mp (sideM_pure _) | exact renhb_mp (jk_pure _) | exact renhb_mp (goesM_pure _) | exact renhb_map (fun _ => rfl) | refine renhb_row ?_ | exact renl_nil | apply renl_cons | exact ren_pure rfl | (apply ren_mp; exact .inr (of_decide_eq_true rfl)) | (apply ren_os; exact .inr (of_decide_eq_true rfl)) | (apply ren_op; exact .inr (of_decide_eq_true rfl)) | skip))) <;> fail) ?_)) | ((first | (apply ops_split_t; rfl; rfl; exact nle rfl) | (apply ops_split_f; rfl; rfl; exact nle rfl) | (apply awp_cond; rfl)); all_goals (intro hc; have hp := hc; first | (simp at hp; done) | ((try simp at hp); first | (exfalso; omega) | skip))) | (apply awp_cond_any; rfl))
  all_goals try (exfalso; omega)
  (apply fin_ownr (rs := [.cell 2 46, .tmp 3]) [] 2; (case hr => (repeat (first | exact resok_nil | (apply resok_tmp; rfl) | (apply resok_cell; rfl; rfl; rfl; rfl; rfl)))); (case hL => rfl); (case hh => (repeat' (first | exact hsok_nil | refine q_srow ?_ | refine q_dead ?_ | refine q_r ?_ | refine q_idx ?_ ?_)); all_goals rfl); (case hi => exact rfl); (case hz => first | rfl | (simp [pack, AV.ren, AV.ren.renL, lookN, getT, enumT]; done) | (simp [pack, AV.ren, AV.ren.renL, lookN, getT, enumT, *]; done) | trace_state))
theorem v_append (h : Hub) (hu : UBig h.ups) (r : Rqt) (rb : r.who.length ≤ 140737488355328) (rt : r.text.length ≤ 140737488355328) (hn : isName r.who = true) (hk : r.kind = 5) :
    ACall C2h.P 45 [.op 0 0 0] (HS h r) (resA (zAns (appR h.ups r.who r.number r.offset r.text h.now).2.1) (appR h.ups r.who r.number r.offset r.text h.now).2.2) (HS (if (appR h.ups r.who r.number r.offset r.text h.now).2.2 = 0 then { h with ups := (appR h.ups r.who r.number r.offset r.text h.now).1 } else h) r) := by
  have ho := h_append h.ups hu r.who rb r.number r.offset r.text rt h.now
  have hs := s_uploads h r (appR h.ups r.who r.number r.offset r.text h.now).1 (appR h.ups r.who r.number r.offset r.text h.now).2.1 (appR h.ups r.who r.number r.offset r.text h.now).2.2
  have hw := g_isName r.who (str_lift rb)
  rw [hn] at hw
  obtain ⟨kind, who, folder, name, key, text, number, offset, base, chs⟩ := r
  dsimp only at *
  subst hk
  generalize appR h.ups who number offset text h.now = P at *
  obtain ⟨u, n, e⟩ := P
  dsimp only at *
  generalize (if e = 0 then ({ h with ups := u } : Hub) else h) = h' at *
  refine acall_intro (C := C2h) Tryz.func45 rfl _ Tryz.ntmps45 (Nat.le_of_ble_eq_true rfl) _ Tryz.results45 2 rfl rfl ?_
  repeat' (first | refine walk ?_ | (first | (apply to_call Tryz.func37 rfl rfl; intro hIsFn; refine o_callf hIsFn (hw ..) ?_; skip) | (apply to_call Tryz.func87 rfl rfl; intro hIsFn; refine o_callp hIsFn (ho ..) ?_) | (apply to_call Tryz.func85 rfl rfl; intro hIsFn; refine o_call0 [0, 1] [(0, .own false 17 [srow 1 h' ⟨5, who, folder, name, key, text, number, offset, base, chs⟩]), (1, .own false 4 (h'.fols.map Fol.row))] (resA (zAns n) e) hIsFn (hs) (by ((repeat' (first | exact argvl_nil | apply argvl_cons | exact argv_pure rfl | exact argv_ex | (apply argv_ren; apply ren_op; exact .inr (of_decide_eq_true rfl)) | (apply argv_ren; apply ren_mp; exact .inr (of_decide_eq_true rfl)) | (apply argv_ren; apply ren_os; exact .inr (of_decide_eq_true rfl)) | apply argv_agg | apply argv_clo))) <;> fail) (by ((repeat' (first | exact give_nil | exact back_nil | refine give_cons _ ?_ ?_ | refine back_cons ?_ ?_ | exact renhb_dead | exact renhb_mp (sideM_pure _) | exact renhb_mp (jk_pure _) | exact renhb_mp (goesM_pure _) | exact renhb_map (fun _ => rfl) | refine renhb_row ?_ | exact renl_nil | apply renl_cons | exact ren_pure rfl | (apply ren_mp; exact .inr (of_decide_eq_true rfl)) | (apply ren_os; exact .inr (of_decide_eq_true rfl)) | (apply ren_op; exact .inr (of_decide_eq_true rfl)) | fail))) <;> fail) (by ((repeat' (first | exact give_nil | exact back_nil | refine give_cons _ ?_ ?_ | refine back_cons ?_ ?_ | exact renhb_dead | exact renhb_mp (sideM_pure _) | exact renhb_mp (jk_pure _) | exact renhb_mp (goesM_pure _) | exact renhb_map (fun _ => rfl) | refine renhb_row ?_ | exact renl_nil | apply renl_cons | exact ren_pure rfl | (apply ren_mp; exact .inr (of_decide_eq_true rfl)) | (apply ren_os; exact .inr (of_decide_eq_true rfl)) | (apply ren_op; exact .inr (of_decide_eq_true rfl)) | skip))) <;> fail) ?_)) | ((first | (apply ops_split_t; rfl; rfl; exact nle rfl) | (apply ops_split_f; rfl; rfl; exact nle rfl) | (apply awp_cond; rfl)); all_goals (intro hc; have hp := hc; first | (simp at hp; done) | ((try simp at hp); first | (exfalso; omega) | skip))) | (apply awp_cond_any; rfl))
  all_goals try (exfalso; omega)
  (apply fin_ownr (rs := [.cell 2 46, .tmp 3]) [] 2; (case hr => (repeat (first | exact resok_nil | (apply resok_tmp; rfl) | (apply resok_cell; rfl; rfl; rfl; rfl; rfl)))); (case hL => rfl); (case hh => (repeat' (first | exact hsok_nil | refine q_srow ?_ | refine q_dead ?_ | refine q_r ?_ | refine q_idx ?_ ?_)); all_goals rfl); (case hi => exact rfl); (case hz => first | rfl | (simp [pack, AV.ren, AV.ren.renL, lookN, getT, enumT]; done) | (simp [pack, AV.ren, AV.ren.renL, lookN, getT, enumT, *]; done) | trace_state))
theorem v_query (h : Hub) (hu : UBig h.ups) (r : Rqt) (rb : r.who.length ≤ 140737488355328) (hn : isName r.who = true) (hk : r.kind = 6) :
    ACall C2h.P 45 [.op 0 0 0] (HS h r) (resA (zAns (qryR h.ups r.who r.number h.now).1) (qryR h.ups r.who r.number h.now).2) (HS h r) := by
  have ho := h_query h.ups hu r.who rb r.number h.now
  have hw := g_isName r.who (str_lift rb)
  rw [hn] at hw
  obtain ⟨kind, who, folder, name, key, text, number, offset, base, chs⟩ := r
  dsimp only at *
  subst hk
  generalize qryR h.ups who number h.now = P at *
  obtain ⟨n, e⟩ := P
  dsimp only at *
  refine acall_intro (C := C2h) Tryz.func45 rfl _ Tryz.ntmps45 (Nat.le_of_ble_eq_true rfl) _ Tryz.results45 2 rfl rfl ?_
  repeat' (first | refine walk ?_ | (first | (apply to_call Tryz.func37 rfl rfl; intro hIsFn; refine o_callf hIsFn (hw ..) ?_; skip) | (apply to_call Tryz.func88 rfl rfl; intro hIsFn; refine o_callp hIsFn (ho ..) ?_)) | ((first | (apply ops_split_t; rfl; rfl; exact nle rfl) | (apply ops_split_f; rfl; rfl; exact nle rfl) | (apply awp_cond; rfl)); all_goals (intro hc; have hp := hc; first | (simp at hp; done) | ((try simp at hp); first | (exfalso; omega) | skip))) | (apply awp_cond_any; rfl))
  all_goals try (exfalso; omega)
  (apply fin_ownr (rs := [.cell 2 46, .tmp 3]) [] 2; (case hr => (repeat (first | exact resok_nil | (apply resok_tmp; rfl) | (apply resok_cell; rfl; rfl; rfl; rfl; rfl)))); (case hL => rfl); (case hh => (repeat' (first | exact hsok_nil | refine q_srow ?_ | refine q_dead ?_ | refine q_r ?_ | refine q_idx ?_ ?_)); all_goals rfl); (case hi => exact rfl); (case hz => first | rfl | (simp [pack, AV.ren, AV.ren.renL, lookN, getT, enumT]; done) | (simp [pack, AV.ren, AV.ren.renL, lookN, getT, enumT, *]; done) | trace_state))
end Go.Proofs.YtiljlcgmcmjcoaaGreatDoor

/- Hubs in the abstract layer, 8: Serve. -/
set_option linter.unusedSimpArgs false
set_option linter.unnecessarySimpa false
set_option linter.unusedVariables false
set_option maxHeartbeats 1000000
namespace Go.Proofs.YtiljlcgmcmjcoaaGreatDoor
open Go.Ab Go.RowKit
set_option maxRecDepth 10000
attribute [local irreducible] Awp Ops OpsX Wanted Red ExOk Go.Ab.Fin ACall Rz RzL RzRows Enters ResOk RenV RenVL ArgV ArgVL
def rqtAV (r : Rqt) : AV := .agg r.row
def tupS (x : Hub) (a : AV) (e : Int) : AV := .tup [hubAV x, a, .v (.int .i64 e)]
theorem t_bad (h : Hub) (hb : HBig h) (r : Rqt) (he : ¬ hubErr h = 0) : AFn C.P 18 [hubAV h, rqtAV r] (tupS noHub (ansAV noAns) (hubErr h)) := by
  have hck := a_hcheck h hb
  generalize hubErr h = E at *
  refine acall_intro Tryz.func18 rfl _ Tryz.ntmps18 (Nat.le_of_ble_eq_true rfl) _ Tryz.results18 0 rfl rfl ?_
  repeat' (first | refine walk ?_ | (first | (apply to_call Tryz.func16 rfl rfl; intro hIsFn; refine o_callf hIsFn (hck ..) ?_; skip)) | ((first | (apply awp_cond; rfl)); all_goals (intro hc; have hp := hc; first | (simp at hp; done) | ((try simp at hp); first | (exfalso; omega) | skip))) | (apply awp_cond_any; rfl))
  all_goals try (exfalso; omega)
  (refine f_pure (rs := [.cell 4 28, .cell 5 46, .tmp 6]) ?_; (repeat' (first | exact rzl_nil | apply rzl_cons | exact rz_pure rfl | exact rz_ex | exact z_os | apply rz_agg | apply rz_tup | apply rz_clo | apply rz_int | apply rz_bool | apply rz_str | refine z_eq ?_ | apply rz_sl)); all_goals trace_state)
theorem t_ok (h h' : Hub) (hb : HBig h) (hr : HRight h) (r : Rqt) (n : Int) (b : Bool) (x1 : Bool) (R1 : List (List AV)) (x2 : Bool) (R2 : List (List AV)) (c : Int) (m : Bool) (p1 : ∀ row, row ∈ R1 → AV.pure.pureL row = true) (p2 : ∀ row, row ∈ R2 → AV.pure.pureL row = true) (sv : ACall C2h.P 45 [.op 0 0 0] (HS h r) (resA (gAns n b x1 R1 x2 R2 c m) 0) (HS h' r)) :
    AFn C.P 18 [hubAV h, rqtAV r] (tupS h' (.agg (gAns n b false R1 false R2 c m)) 0) := by
  have hck := a_hcheck h hb
  rw [hright_iff.2 hr] at hck
  have hco := a_hclonedO h hr
  have hcp := a_hcloned h hr
  refine acall_intro Tryz.func18 rfl _ Tryz.ntmps18 (Nat.le_of_ble_eq_true rfl) _ Tryz.results18 0 rfl rfl ?_
  repeat' (first | refine walk ?_ | (first | (apply to_call Tryz.func16 rfl rfl; intro hIsFn; refine o_callf hIsFn (hck ..) ?_; skip) | (apply to_call Tryz.func44 rfl rfl; intro hIsFn; refine o_callo ([]) hIsFn (hco ..) ?_) | (apply to_call Tryz.func45 rfl rfl; intro hIsFn; refine o_call0 [5, 4] [(5, .own false 17 [srow 4 h' r]), (4, .own false 4 (h'.fols.map Fol.row))] (resA (gAns n b x1 R1 x2 R2 c m) 0) hIsFn (sv) (by ((repeat' (first | exact argvl_nil | apply argvl_cons | exact argv_pure rfl | exact argv_ex | (apply argv_ren; apply ren_op; exact .inr (of_decide_eq_true rfl)) | (apply argv_ren; apply ren_mp; exact .inr (of_decide_eq_true rfl)) | (apply argv_ren; apply ren_os; exact .inr (of_decide_eq_true rfl)) | apply argv_agg | apply argv_clo))) <;> fail) (by ((repeat' (first | exact give_nil | exact back_nil | refine give_cons _ ?_ ?_ | refine back_cons ?_ ?_ | exact renhb_dead | exact renhb_mp (sideM_pure _) | exact renhb_mp (jk_pure _) | exact renhb_mp (goesM_pure _) | exact renhb_map (fun _ => rfl) | refine renhb_row ?_ | exact renl_nil | apply renl_cons | exact ren_pure rfl | (apply ren_mp; exact .inr (of_decide_eq_true rfl)) | (apply ren_os; exact .inr (of_decide_eq_true rfl)) | (apply ren_op; exact .inr (of_decide_eq_true rfl)) | fail))) <;> fail) (by ((repeat' (first | exact give_nil | exact back_nil | refine give_cons _ ?_ ?_ | refine back_cons ?_ ?_ | exact renhb_dead | exact renhb_mp (sideM_pure _) | exact renhb_mp (jk_pure _) | exact renhb_mp (goesM_pure _) | exact renhb_map (fun _ => rfl) | refine renhb_row ?_ | exact renl_nil | apply renl_cons | exact ren_pure rfl | (apply ren_mp; exact .inr (of_decide_eq_true rfl)) | (apply ren_os; exact .inr (of_decide_eq_true rfl)) | (apply ren_op; exact .inr (of_decide_eq_true rfl)) | fail))) <;> fail) ?_)) | ((first | (apply awp_cond; rfl)); all_goals (intro hc; have hp := hc; first | (simp at hp; done) | ((try simp at hp); first | (exfalso; omega) | skip))) | (apply awp_cond_any; rfl))
  all_goals try (exfalso; omega)
  (refine f_pure (rs := [.cell 4 28, .cell 5 46, .tmp 6]) ?_; (repeat' (first | exact rzl_nil | apply rzl_cons | exact rz_pure rfl | exact rz_ex | exact z_os | apply rz_agg | apply rz_tup | apply rz_clo | apply rz_int | apply rz_bool | apply rz_str | refine z_eq ?_ | apply rz_sl)); all_goals rfl)
theorem t_err (h h' : Hub) (hb : HBig h) (hr : HRight h) (r : Rqt) (n : Int) (b : Bool) (x1 : Bool) (R1 : List (List AV)) (x2 : Bool) (R2 : List (List AV)) (c : Int) (m : Bool) (e : Int) (he : ¬ e = 0) (sv : ACall C2h.P 45 [.op 0 0 0] (HS h r) (resA (gAns n b x1 R1 x2 R2 c m) e) (HS h' r)) :
    AFn C.P 18 [hubAV h, rqtAV r] (tupS h (ansAV (errA e)) 0) := by
  have hck := a_hcheck h hb
  rw [hright_iff.2 hr] at hck
  have hco := a_hclonedO h hr
  have hcp := a_hcloned h hr
  refine acall_intro Tryz.func18 rfl _ Tryz.ntmps18 (Nat.le_of_ble_eq_true rfl) _ Tryz.results18 0 rfl rfl ?_
  repeat' (first | refine walk ?_ | (first | (apply to_call Tryz.func16 rfl rfl; intro hIsFn; refine o_callf hIsFn (hck ..) ?_; skip) | (apply to_call Tryz.func44 rfl rfl; intro hIsFn; refine o_callo ([]) hIsFn (hco ..) ?_) | (apply to_call Tryz.func45 rfl rfl; intro hIsFn; refine o_call0 [5, 4] [(5, .own false 17 [srow 4 h' r]), (4, .own false 4 (h'.fols.map Fol.row))] (resA (gAns n b x1 R1 x2 R2 c m) e) hIsFn (sv) (by ((repeat' (first | exact argvl_nil | apply argvl_cons | exact argv_pure rfl | exact argv_ex | (apply argv_ren; apply ren_op; exact .inr (of_decide_eq_true rfl)) | (apply argv_ren; apply ren_mp; exact .inr (of_decide_eq_true rfl)) | (apply argv_ren; apply ren_os; exact .inr (of_decide_eq_true rfl)) | apply argv_agg | apply argv_clo))) <;> fail) (by ((repeat' (first | exact give_nil | exact back_nil | refine give_cons _ ?_ ?_ | refine back_cons ?_ ?_ | exact renhb_dead | exact renhb_mp (sideM_pure _) | exact renhb_mp (jk_pure _) | exact renhb_mp (goesM_pure _) | exact renhb_map (fun _ => rfl) | refine renhb_row ?_ | exact renl_nil | apply renl_cons | exact ren_pure rfl | (apply ren_mp; exact .inr (of_decide_eq_true rfl)) | (apply ren_os; exact .inr (of_decide_eq_true rfl)) | (apply ren_op; exact .inr (of_decide_eq_true rfl)) | fail))) <;> fail) (by ((repeat' (first | exact give_nil | exact back_nil | refine give_cons _ ?_ ?_ | refine back_cons ?_ ?_ | exact renhb_dead | exact renhb_mp (sideM_pure _) | exact renhb_mp (jk_pure _) | exact renhb_mp (goesM_pure _) | exact renhb_map (fun _ => rfl) | refine renhb_row ?_ | exact renl_nil | apply renl_cons | exact ren_pure rfl | (apply ren_mp; exact .inr (of_decide_eq_true rfl)) | (apply ren_os; exact .inr (of_decide_eq_true rfl)) | (apply ren_op; exact .inr (of_decide_eq_true rfl)) | fail))) <;> fail) ?_)) | ((first | (apply awp_cond; rfl)); all_goals (intro hc; have hp := hc; first | (simp at hp; done) | ((try simp at hp); first | (exfalso; omega) | skip))) | (apply awp_cond_any; rfl))
  all_goals try (exfalso; omega)
  (refine f_pure (rs := [.cell 4 28, .cell 5 46, .tmp 6]) ?_; (repeat' (first | exact rzl_nil | apply rzl_cons | exact rz_pure rfl | exact rz_ex | exact z_os | apply rz_agg | apply rz_tup | apply rz_clo | apply rz_int | apply rz_bool | apply rz_str | refine z_eq ?_ | apply rz_sl)); all_goals rfl)
theorem t_create (h h' : Hub) (hb : HBig h) (hr : HRight h) (r : Rqt) (k : Nat) (f : Str) (hk : k = h.fols.length + 1) (hh : h'.fols = insF h.fols f) (sv : ACall C2h.P 45 [.op 0 0 0] (HS h r) (resA (zAns 0) 0) [.own false 17 [.os 2 0 k :: (srow 2 h' r).drop 1], .dead, .own false 4 (insR h.fols f)]) :
    AFn C.P 18 [hubAV h, rqtAV r] (tupS h' (ansAV noAns) 0) := by
  have hck := a_hcheck h hb
  rw [hright_iff.2 hr] at hck
  have hco := a_hclonedO h hr
  have hcp := a_hcloned h hr
  have hpu : ∀ row, row ∈ insR h.fols f → AV.pure.pureL row = true := insR_pure _ _
  have hrz : ∀ {g : Nat → HB} {n : Nat}, g n = .own false 4 (insR h.fols f) → Rz g (.os n 0 k) (folAV h'.fols) := fun hn => by rw [hh]; exact rz_ins hn hk
  refine acall_intro Tryz.func18 rfl _ Tryz.ntmps18 (Nat.le_of_ble_eq_true rfl) _ Tryz.results18 0 rfl rfl ?_
  repeat' (first | refine walk ?_ | (first | (apply to_call Tryz.func16 rfl rfl; intro hIsFn; refine o_callf hIsFn (hck ..) ?_; skip) | (apply to_call Tryz.func44 rfl rfl; intro hIsFn; refine o_callo ([]) hIsFn (hco ..) ?_) | (apply to_call Tryz.func45 rfl rfl; intro hIsFn; refine o_callm [5, 4] [6] [(5, .own false 17 [.os 6 0 k :: (srow 2 h' r).drop 1]), (4, .dead), (6, .own false 4 (insR h.fols f))] 7 (resA (zAns 0) 0) hIsFn (sv) (by ((repeat' (first | exact argvl_nil | apply argvl_cons | exact argv_pure rfl | exact argv_ex | (apply argv_ren; apply ren_op; exact .inr (of_decide_eq_true rfl)) | (apply argv_ren; apply ren_mp; exact .inr (of_decide_eq_true rfl)) | (apply argv_ren; apply ren_os; exact .inr (of_decide_eq_true rfl)) | apply argv_agg | apply argv_clo))) <;> fail) (by ((repeat' (first | exact give_nil | exact back_nil | refine give_cons _ ?_ ?_ | refine back_cons ?_ ?_ | exact renhb_dead | exact renhb_mp (sideM_pure _) | exact renhb_mp (jk_pure _) | exact renhb_mp (goesM_pure _) | exact renhb_map (fun _ => rfl) | refine renhb_row ?_ | exact renl_nil | apply renl_cons | exact ren_pure rfl | (apply ren_mp; exact .inr (of_decide_eq_true rfl)) | (apply ren_os; exact .inr (of_decide_eq_true rfl)) | (apply ren_op; exact .inr (of_decide_eq_true rfl)) | fail))) <;> fail) (by ((repeat' (first | exact give_nil | exact back_nil | refine give_cons _ ?_ ?_ | refine back_cons ?_ ?_ | exact renhb_dead | exact renhb_mp (sideM_pure _) | exact renhb_mp (jk_pure _) | exact renhb_mp (goesM_pure _) | exact renhb_map (fun _ => rfl) | refine renhb_row ?_ | exact renl_nil | apply renl_cons | exact ren_pure rfl | (apply ren_mp; exact .inr (of_decide_eq_true rfl)) | (apply ren_os; exact .inr (of_decide_eq_true rfl)) | (apply ren_op; exact .inr (of_decide_eq_true rfl)) | first | exact renl_pures rfl | exact renhb_pure hpu))) <;> fail) ?_)) | ((first | (apply awp_cond; rfl)); all_goals (intro hc; have hp := hc; first | (simp at hp; done) | ((try simp at hp); first | (exfalso; omega) | skip))) | (apply awp_cond_any; rfl))
  all_goals try (exfalso; omega)
  (refine f_pure (rs := [.cell 4 28, .cell 5 46, .tmp 6]) ?_; (repeat' (first | ((apply hrz; rfl)) | exact rzl_nil | apply rzl_cons | exact rz_pure rfl | exact rz_ex | exact z_os | apply rz_agg | apply rz_tup | apply rz_clo | apply rz_int | apply rz_bool | apply rz_str | refine z_eq ?_ | apply rz_sl)); all_goals rfl)
end Go.Proofs.YtiljlcgmcmjcoaaGreatDoor

/- Hubs in the abstract layer, 9: Serve answers as the document says. -/
set_option linter.unusedSimpArgs false
set_option linter.unnecessarySimpa false
set_option linter.unusedVariables false
namespace Go.Proofs.YtiljlcgmcmjcoaaGreatDoor
open Go.Ab Go.RowKit
set_option maxRecDepth 10000
attribute [local irreducible] Awp Ops OpsX Wanted Red ExOk Go.Ab.Fin ACall Rz RzL RzRows Enters ResOk RenV RenVL ArgV ArgVL
theorem fol_at {h : Hub} (hr : HRight h) {f w : Str} (hw : ¬ rightG h.gras f w = 0) : ∃ (k : Nat) (hk : k < h.fols.length), posF h.fols f = k ∧ hasF h.fols f = true ∧ h.fols[k].name = f ∧ jouAt h.fols f = some h.fols[k].jou ∧ JRight h.fols[k].jou := by
  have hh : hasF h.fols f = true := by rw [hr.has]; exact right_told hw
  obtain ⟨hk, h1, h2, _⟩ := hasF_at hr.rise hh
  refine ⟨posF h.fols f, hk, rfl, hh, h1, ?_, (hr.each _ (List.getElem_mem _)).2⟩
  unfold jouAt
  rw [show h.fols.find? (fun s => decide (s.name = f)) = h.fols.find? (atF f) from rfl, h2]; rfl
theorem zAns_g (n : Int) : zAns n = gAns n false true [] true [] 0 false := rfl
theorem noRows : ∀ row, row ∈ ([] : List (List AV)) → AV.pure.pureL row = true := fun row h => by cases h
theorem ans_z (n : Int) : (.agg (gAns n false false [] false [] 0 false) : AV) = ansAV ⟨0, n, noPag⟩ := rfl
/-- Where a method answers so. -/
theorem t_z (h h' : Hub) (hb : HBig h) (hr : HRight h) (r : Rqt) (n e : Int) (sv : ACall C2h.P 45 [.op 0 0 0] (HS h r) (resA (zAns n) e) (HS h' r)) :
    AFn C.P 18 [hubAV h, rqtAV r] (tupS (if e = 0 then h' else h) (ansAV (if e = 0 then ⟨0, n, noPag⟩ else errA e)) 0) := by
  rw [zAns_g] at sv
  by_cases h0 : e = 0
  · subst h0
    rw [if_pos rfl, if_pos rfl, ← ans_z]
    exact t_ok h h' hb hr r _ _ _ _ _ _ _ _ noRows noRows sv
  · rw [if_neg h0, if_neg h0]
    exact t_err h h' hb hr r _ _ _ _ _ _ _ _ e h0 sv
theorem tz_eq {f : FuncId} {ys : List AV} {x x' : Hub} {a a' : Ans} (h : AFn C.P f ys (tupS x (ansAV a) 0)) (e : (x', a') = (x, a)) : AFn C.P f ys (tupS x' (ansAV a') 0) := by
  injection e with e1 e2
  rw [e1, e2]; exact h
theorem pureL_srow (h : Hub) (r : Rqt) : AV.pure.pureL ((srow 2 h r).drop 1) = true := rfl
theorem t_serveW (h : Hub) (hb : HBig h) (hr : HRight h) (r : Rqt) (rb : RBig r) : AFn C.P 18 [hubAV h, rqtAV r] (tupS (serveW h r).1 (ansAV (serveW h r).2) 0) := by
  obtain ⟨a1, a2, a3, a4⟩ := graErr_all hr.gra
  have hl := hr.len
  by_cases hk : 1 ≤ r.kind ∧ r.kind ≤ 8
  case neg =>
    refine tz_eq (t_z h h hb hr r 0 7 (s_kind h r (by omega))) ?_
    unfold serveW; rw [if_pos hk]; rfl
  by_cases hn : isName r.who = false
  · refine tz_eq (t_z h h hb hr r 0 1 (s_noname h r rb.who hk hn)) ?_
    unfold serveW; rw [if_neg (fun e => e hk), if_pos hn]; rfl
  have hn1 : isName r.who = true := by simpa using hn
  have hW : serveW h r = if r.kind = 8 then createH h r else if r.kind = 3 then giveH h r else if r.kind = 2 then pageH h r else if r.kind = 4 then upsH h (opnR h.ups r.who r.number h.now) else if r.kind = 5 then upsH h (appR h.ups r.who r.number r.offset r.text h.now) else if r.kind = 6 then qryH h r else editH h r := by
    unfold serveW; rw [if_neg (fun e => e hk), if_neg hn]
  by_cases k8 : r.kind = 8
  · rw [if_pos k8] at hW
    rw [hW]
    unfold createH
    by_cases h0 : makeErr h.gras r.folder r.who = 0
    · rw [if_pos h0]
      by_cases h8 : h.fols.length = 8
      · rw [if_pos h8]
        have sv := v_create h h r rb.who hn1 k8 _ _ _ _ _ _ _ _ _ (s_create_no h hb r rb fun _ => h8)
        rw [if_pos h0] at sv
        exact tz_eq (t_z h h hb hr r 0 2 sv) rfl
      · rw [if_neg h8]
        have sc := s_create h hb r rb hr h0 h8
        have e1 : srow 2 (creM h r) r = .os 2 0 (h.fols.length + 1) :: (srow 2 (creM h r) r).drop 1 := by
          show AV.os 2 0 (creM h r).fols.length :: _ = _
          rw [show (creM h r).fols.length = h.fols.length + 1 from insF_len _ _]; rfl
        rw [e1] at sc
        have sv := v_create_ok h (creM h r) r rb.who hn1 k8 _ (insR_pure _ _) _ _ (pureL_srow _ _) sc
        exact t_create h (creM h r) hb hr r _ r.folder rfl rfl sv
    · rw [if_neg h0]
      have sv := v_create h h r rb.who hn1 k8 _ _ _ _ _ _ _ _ _ (s_create_no h hb r rb fun e => absurd e h0)
      rw [if_neg h0] at sv
      refine tz_eq (t_z h h hb hr r 0 _ sv) ?_
      rw [if_neg h0, if_neg h0]
  rw [if_neg k8] at hW
  by_cases k3 : r.kind = 3
  · rw [if_pos k3] at hW
    rw [hW]
    unfold giveH
    by_cases h1 : rightG h.gras r.folder r.who < 1
    · rw [if_pos h1]
      exact tz_eq (t_z h h hb hr r 0 9 (v_give h h r rb.who hn1 k3 _ _ _ _ _ _ _ _ _ (s_give_no h r hr h1))) rfl
    · rw [if_neg h1]
      refine tz_eq (t_z h (giveM h r) hb hr r 0 _ (v_give h _ r rb.who hn1 k3 _ _ _ _ _ _ _ _ _ (s_give h hb r rb hr h1))) ?_
      unfold giveM
      by_cases h0 : (giveR h.gras r.folder r.who r.name r.number).2 = 0
      · simp only [if_pos h0]; rfl
      · simp only [if_neg h0]
  rw [if_neg k3] at hW
  by_cases k2 : r.kind = 2
  · rw [if_pos k2] at hW
    rw [hW]
    unfold pageH
    by_cases h1 : rightG h.gras r.folder r.who < 1
    · rw [if_pos h1]
      exact tz_eq (t_z h h hb hr r 0 9 (v_page h h r rb.who hn1 k2 _ _ _ _ _ _ _ _ _ (s_page_no h r hr h1))) rfl
    · rw [if_neg h1]
      obtain ⟨k, hkl, e1, e2, e3, e4, e5⟩ := fol_at hr (f := r.folder) (w := r.who) (by omega)
      have sp := s_page h hb r hr h1 k hkl e1 e2
      rw [e4]
      have hrw : readR h.fols[k].jou r.number 10 = readW h.fols[k].jou r.number 10 := by unfold readR; rw [if_neg (by simp [jright_iff.2 e5])]
      rw [hrw] at sp
      dsimp only
      generalize readW h.fols[k].jou r.number 10 = P at *
      obtain ⟨p, e⟩ := P
      dsimp only at *
      have sv := v_page h h r rb.who hn1 k2 0 p.reset false (p.tree.map Ent.row) false (p.coms.map Com.row) p.cur p.more e sp
      by_cases h0 : e = 0
      · subst h0
        rw [if_pos rfl]
        exact t_ok h h hb hr r _ _ _ _ _ _ _ _ (pures_map fun _ => rfl) (pures_map fun _ => rfl) sv
      · rw [if_neg h0]
        exact t_err h h hb hr r _ _ _ _ _ _ _ _ e h0 sv
  rw [if_neg k2] at hW
  by_cases k4 : r.kind = 4
  · rw [if_pos k4] at hW
    rw [hW]
    refine tz_eq (t_z h _ hb hr r _ _ (v_open h hb.ups r rb.who hn1 k4)) ?_
    unfold upsH
    by_cases h0 : (opnR h.ups r.who r.number h.now).2.2 = 0
    · simp only [if_pos h0]
    · simp only [if_neg h0]
  rw [if_neg k4] at hW
  by_cases k5 : r.kind = 5
  · rw [if_pos k5] at hW
    rw [hW]
    refine tz_eq (t_z h _ hb hr r _ _ (v_append h hb.ups r rb.who rb.text hn1 k5)) ?_
    unfold upsH
    by_cases h0 : (appR h.ups r.who r.number r.offset r.text h.now).2.2 = 0
    · simp only [if_pos h0]
    · simp only [if_neg h0]
  rw [if_neg k5] at hW
  by_cases k6 : r.kind = 6
  · rw [if_pos k6] at hW
    rw [hW]
    refine tz_eq (t_z h h hb hr r _ _ (v_query h hb.ups r rb.who hn1 k6)) ?_
    unfold qryH
    by_cases h0 : (qryR h.ups r.who r.number h.now).2 = 0
    · simp only [if_pos h0]
    · simp only [if_neg h0]
  rw [if_neg k6] at hW
  rw [hW]
  unfold editH
  have hmay := a_smay h r a3 (by omega) 2
  by_cases h2 : rightG h.gras r.folder r.who < 2
  · rw [if_pos h2]
    rw [if_pos h2] at hmay
    by_cases k7 : r.kind = 7
    · exact tz_eq (t_z h h hb hr r 0 9 (v_low7 h r rb.who hn1 k7 hmay)) rfl
    · exact tz_eq (t_z h h hb hr r 0 9 (v_low1 h r rb.who hn1 (by omega) hmay)) rfl
  rw [if_neg h2]
  rw [if_neg h2] at hmay
  obtain ⟨k, hkl, e1, e2, e3, e4, e5⟩ := fol_at hr (f := r.folder) (w := r.who) (by omega)
  have hset := fun j => setJ_at hr.rise hkl e3 j
  by_cases k7 : r.kind = 7
  · rw [if_pos k7]
    unfold finH
    by_cases h0 : (finR h.ups r.who r.number h.now).2.2 = 0
    · rw [if_pos h0]
      have hx : (finR h.ups r.who r.number h.now).2.1.length ≤ 1000 := by
        unfold finR
        by_cases q1 : mineErr h.ups r.who r.number h.now = 0
        · rw [if_pos q1]
          have := mine_text q1
          split
          · simp
          · show (mineS h.ups r.who r.number h.now).text.length ≤ 1000; omega
        · rw [if_neg q1]; simp
      have sf := s_finish h hb r rb hr h0 hx k hkl e1 e2 e3
      refine tz_eq (t_z h _ hb hr r _ _ (v_finish h _ r rb.who hn1 k7 _ _ _ _ _ _ _ _ _ sf hmay)) ?_
      unfold comH finM comM
      rw [e4]
      dsimp only
      rw [commitW_eq e5]
      generalize finR h.ups r.who r.number h.now = P at *
      obtain ⟨u, x, e⟩ := P
      dsimp only at *
      generalize commitR h.fols[k].jou r.key [⟨2, r.name, [], x, r.base⟩] = Q at *
      obtain ⟨j', n, e'⟩ := Q
      dsimp only at *
      by_cases q0 : e' = 0
      · simp only [if_pos q0, hset]
      · simp only [if_neg q0]
    · rw [if_neg h0]
      refine tz_eq (t_z h h hb hr r 0 _ (v_finish h h r rb.who hn1 k7 _ _ _ _ _ _ _ _ _ (s_finish_no h hb r rb h0) hmay)) ?_
      simp only [if_neg h0]
  · rw [if_neg k7]
    have k1 : r.kind = 1 := by omega
    have sc := s_commit h hb r rb hr r.chs rb.chs k hkl e1 e2 e3
    refine tz_eq (t_z h _ hb hr r _ _ (v_commit h _ r rb.who hn1 k1 _ _ _ _ _ _ _ _ _ sc hmay)) ?_
    unfold comH comM
    rw [e4]
    dsimp only
    rw [commitW_eq e5]
    generalize commitR h.fols[k].jou r.key r.chs = Q at *
    obtain ⟨j', n, e'⟩ := Q
    dsimp only at *
    by_cases q0 : e' = 0
    · simp only [if_pos q0, hset]
    · simp only [if_neg q0]
theorem a_serve (h : Hub) (hb : HBig h) (r : Rqt) (rb : RBig r) : AFn C.P 18 [hubAV h, rqtAV r] (tupS (serveR h r).1 (ansAV (serveR h r).2.1) (serveR h r).2.2) := by
  unfold serveR
  by_cases h0 : hubErr h = 0
  · rw [if_pos h0]; exact t_serveW h hb (hright_iff.1 h0) r rb
  · rw [if_neg h0]; exact t_bad h hb r h0
end Go.Proofs.YtiljlcgmcmjcoaaGreatDoor

/- Hubs in the abstract layer, 10: New, Tick, Tree; SameHub, SameAnswer; what must be in any case. -/
set_option linter.unusedSimpArgs false
set_option linter.unnecessarySimpa false
set_option linter.unusedVariables false
set_option maxHeartbeats 1000000
namespace Go.Proofs.YtiljlcgmcmjcoaaGreatDoor
open Go.Ab Go.RowKit
set_option maxRecDepth 10000
attribute [local irreducible] Awp Ops OpsX Wanted Red ExOk Go.Ab.Fin ACall Rz RzL RzRows Enters ResOk RenV RenVL ArgV ArgVL
def newH (lasts room : Int) : Hub := ⟨[], [], ⟨[], 1, lasts, room⟩, 0⟩
def newR (lasts room : Int) : Hub × Int := if upErr ⟨[], 1, lasts, room⟩ = 0 then (newH lasts room, 0) else (noHub, upErr ⟨[], 1, lasts, room⟩)
theorem ubig_nil (a b c : Int) : UBig ⟨[], a, b, c⟩ := ⟨nofun, nofun, by simp⟩
theorem a_hnew (lasts room : Int) : AFn C.P 12 [.v (.int .i64 lasts), .v (.int .i64 room)] (.tup [hubAV (newR lasts room).1, .v (.int .i64 (newR lasts room).2)]) := by
  have hc := u_check ⟨[], 1, lasts, room⟩ (ubig_nil _ _ _)
  unfold newR
  generalize upErr ⟨[], 1, lasts, room⟩ = E at *
  by_cases h0 : E = 0
  · rw [if_pos h0]
    subst h0
    refine acall_intro Tryz.func12 rfl _ Tryz.ntmps12 (Nat.le_of_ble_eq_true rfl) _ Tryz.results12 0 rfl rfl ?_
    repeat' (first | refine walk ?_ | (first | (apply to_call Tryz.func31 rfl rfl; intro hIsFn; refine o_callf hIsFn (hc ..) ?_; skip)) | ((first | (apply awp_cond; rfl)); all_goals (intro hc; have hp := hc; first | (simp at hp; done) | ((try simp at hp); first | (exfalso; omega) | skip))) | (apply awp_cond_any; rfl))
    all_goals try (exfalso; omega)
    (refine f_pure (rs := [.cell 4 28, .tmp 5]) ?_; (repeat' (first | exact rzl_nil | apply rzl_cons | exact rz_pure rfl | exact rz_ex | exact z_os | apply rz_agg | apply rz_tup | apply rz_clo | apply rz_int | apply rz_bool | apply rz_str | refine z_eq ?_ | apply rz_sl)); all_goals rfl)
  · rw [if_neg h0]
    refine acall_intro Tryz.func12 rfl _ Tryz.ntmps12 (Nat.le_of_ble_eq_true rfl) _ Tryz.results12 0 rfl rfl ?_
    repeat' (first | refine walk ?_ | (first | (apply to_call Tryz.func31 rfl rfl; intro hIsFn; refine o_callf hIsFn (hc ..) ?_; skip)) | ((first | (apply awp_cond; rfl)); all_goals (intro hc; have hp := hc; first | (simp at hp; done) | ((try simp at hp); first | (exfalso; omega) | skip))) | (apply awp_cond_any; rfl))
    all_goals try (exfalso; omega)
    (refine f_pure (rs := [.cell 4 28, .tmp 5]) ?_; (repeat' (first | exact rzl_nil | apply rzl_cons | exact rz_pure rfl | exact rz_ex | exact z_os | apply rz_agg | apply rz_tup | apply rz_clo | apply rz_int | apply rz_bool | apply rz_str | refine z_eq ?_ | apply rz_sl)); all_goals rfl)
theorem a_htree (h : Hub) (hb : HBig h) (f : Str) : AFn C.P 21 [hubAV h, .v (str f)] (.tup [entAV (treeR h f).1, .v (.int .i64 (treeR h f).2)]) := by
  have hc := a_hcheck h hb
  unfold treeR
  by_cases h0 : hubErr h = 0
  case neg =>
    rw [if_neg h0]
    generalize hubErr h = E at *
    refine acall_intro Tryz.func21 rfl _ Tryz.ntmps21 (Nat.le_of_ble_eq_true rfl) _ Tryz.results21 0 rfl rfl ?_
    repeat' (first | refine walk ?_ | (first | (apply to_call Tryz.func16 rfl rfl; intro hIsFn; refine o_callf hIsFn (hc ..) ?_; skip)) | ((first | (apply awp_cond; rfl)); all_goals (intro hc; have hp := hc; first | (simp at hp; done) | ((try simp at hp); first | (exfalso; omega) | skip))) | (apply awp_cond_any; rfl))
    all_goals try (exfalso; omega)
    (refine f_pure (rs := [.tmp 4, .tmp 5]) ?_; (repeat' (first | exact rzl_nil | apply rzl_cons | exact rz_pure rfl | exact rz_ex | exact z_os | apply rz_agg | apply rz_tup | apply rz_clo | apply rz_int | apply rz_bool | apply rz_str | refine z_eq ?_ | apply rz_sl)); all_goals rfl)
  rw [if_pos h0]
  have hr := hright_iff.1 h0
  rw [h0] at hc
  have hl := hr.len
  have hf := a_hfind h f (by omega) hr.rise
  unfold treeW
  cases hh : hasF h.fols f with
  | false =>
    rw [jouAt_none.2 hh]
    rw [hh] at hf
    refine acall_intro Tryz.func21 rfl _ Tryz.ntmps21 (Nat.le_of_ble_eq_true rfl) _ Tryz.results21 0 rfl rfl ?_
    repeat' (first | refine walk ?_ | (first | (apply to_call Tryz.func16 rfl rfl; intro hIsFn; refine o_callf hIsFn (hc ..) ?_; skip) | (apply to_call Tryz.func58 rfl rfl; intro hIsFn; refine o_callp hIsFn (hf ..) ?_)) | ((first | (apply awp_cond; rfl)); all_goals (intro hc; have hp := hc; first | (simp at hp; done) | ((try simp at hp); first | (exfalso; omega) | skip))) | (apply awp_cond_any; rfl))
    all_goals try (exfalso; omega)
    (refine f_pure (rs := [.tmp 4, .tmp 5]) ?_; (repeat' (first | exact rzl_nil | apply rzl_cons | exact rz_pure rfl | exact rz_ex | exact z_os | apply rz_agg | apply rz_tup | apply rz_clo | apply rz_int | apply rz_bool | apply rz_str | refine z_eq ?_ | apply rz_sl)); all_goals rfl)
  | true =>
    obtain ⟨hk, h1, h2, _⟩ := hasF_at hr.rise hh
    have hj : jouAt h.fols f = some h.fols[posF h.fols f].jou := by
      unfold jouAt
      rw [show h.fols.find? (fun s => decide (s.name = f)) = h.fols.find? (atF f) from rfl, h2]; rfl
    rw [hj]
    dsimp only
    rw [hh] at hf
    have ht := a_jtree h.fols[posF h.fols f].jou (hb.fols.each _ (List.getElem_mem _)).jou
    have hrow := getRow (f := Fol.row) hk
    have hz : treeJ h.fols[posF h.fols f].jou = (nowT h.fols[posF h.fols f].jou, 0) := by
      have := jright_iff.2 (hr.each _ (List.getElem_mem hk)).2
      unfold treeJ; simp [this]
    rw [hz] at ht
    generalize nowT h.fols[posF h.fols f].jou = T at *
    clear hj h1 h2 hr hz
    generalize hp : posF h.fols f = k at *
    refine acall_intro Tryz.func21 rfl _ Tryz.ntmps21 (Nat.le_of_ble_eq_true rfl) _ Tryz.results21 0 rfl rfl ?_
    repeat' (first | refine walk ?_ | (first | (apply to_call Tryz.func16 rfl rfl; intro hIsFn; refine o_callf hIsFn (hc ..) ?_; skip) | (apply to_call Tryz.func58 rfl rfl; intro hIsFn; refine o_callp hIsFn (hf ..) ?_) | (apply to_call Tryz.func59 rfl rfl; intro hIsFn; refine o_callp hIsFn (ht ..) ?_)) | ((first | (apply awp_cond; rfl)); all_goals (intro hc; have hp := hc; first | (simp at hp; done) | ((try simp at hp); first | (exfalso; omega) | skip))) | (apply awp_cond_any; rfl))
    all_goals try (exfalso; omega)
    (refine f_pure (rs := [.tmp 4, .tmp 5]) ?_; (repeat' (first | exact rzl_nil | apply rzl_cons | exact rz_pure rfl | exact rz_ex | exact z_os | apply rz_agg | apply rz_tup | apply rz_clo | apply rz_int | apply rz_bool | apply rz_str | refine z_eq ?_ | apply rz_sl)); all_goals rfl)
end Go.Proofs.YtiljlcgmcmjcoaaGreatDoor
