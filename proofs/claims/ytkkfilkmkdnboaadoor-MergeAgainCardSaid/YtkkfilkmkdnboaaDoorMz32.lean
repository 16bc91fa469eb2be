import Derived.Test.YtkkfilkmkdnboaaDoorMz31
import Derived.Test.YtkkfilkmkdnboaaDoorMz30
/- Merges in the abstract layer, 7: merge: all paths. -/
set_option linter.unusedSimpArgs false
set_option linter.unnecessarySimpa false
set_option linter.unusedVariables false
set_option maxHeartbeats 1000000
namespace Go.Proofs.YtkkfilkmkdnboaaDoor
open Go.Ab Go.RowKit
set_option maxRecDepth 10000
attribute [local irreducible] Awp Ops OpsX Wanted Red ExOk Go.Ab.Fin ACall Rz RzL RzRows Enters ResOk RenV RenVL ArgV ArgVL
set_option maxHeartbeats 16000000 in
theorem m_merge_a (B M T : List Ent) (hB : Right B) (hM : Right M) (hT : Right T) (P : List Str) (hP : allP B M T = P) (lP : P.length ≤ 180) :
    Awp C5 125 (tl 3 mergeCode) (finQ C5 #[ResultVar.tmp 2] 5 (.v (.bool (mergeS B M T).isSome)) (H8o B M T (mergeS B M T))) ⟨[(0, .op 0 0 0), (3, .mp 6)], [(0, .own false 5 [mrow 5 0]), (1, .mp (sideM B)), (2, .mp (sideM M)), (3, .mp (sideM T)), (4, .mp (sideM [])), (5, .own false 2 []), (6, .mp (jk P))], 7⟩ := by
  conv => arg 3; whnf
  have rP : risS P := hP ▸ allP_ris B M T
  have pP : ∀ x, x ∈ P → pathErr x = 0 := fun x hx => allP_right hB hM hT (hP ▸ hx)
  have ap1 := a_paths (jk P) P rP (by rw [jk_keys]) (by omega) (fun x hx => Nat.le_trans (pathErr_small (pP x hx)) (by decide))
  repeat' (first | refine walk ?_ | (first | (apply opsx_new; apply ex_makeMap; exact nle rfl)) | ((first | (apply ops_split_t; rfl; rfl; exact nle rfl) | (apply ops_split_f; rfl; rfl; exact nle rfl) | (apply awp_cond; rfl)); all_goals (intro hc; have hp := hc; first | (simp at hp; done) | ((try simp at hp); first | (exfalso; omega) | skip))) | (apply awp_cond_any; rfl))
  all_goals try (exfalso; omega)
  apply to_call Tryd.func72 rfl rfl
  intro hIsFn
  refine o_callm [6] [8] [(6, .mp (jk P)), (8, .own false 1 (P.map strAV))] 9 (.os 8 0 P.length) hIsFn (ap1) (by ((repeat' (first | exact argvl_nil | apply argvl_cons | exact argv_pure rfl | exact argv_ex | (apply argv_ren; apply ren_op; exact .inr (of_decide_eq_true rfl)) | (apply argv_ren; apply ren_mp; exact .inr (of_decide_eq_true rfl)) | (apply argv_ren; apply ren_os; exact .inr (of_decide_eq_true rfl)) | apply argv_agg | apply argv_clo))) <;> fail) (by ((repeat' (first | exact give_nil | exact back_nil | refine give_cons _ ?_ ?_ | refine back_cons ?_ ?_ | exact renhb_dead | exact renhb_mp (sideM_pure _) | exact renhb_mp (jk_pure _) | exact renhb_mp (goesM_pure _) | exact renhb_map (fun _ => rfl) | refine renhb_row ?_ | exact renl_nil | apply renl_cons | exact ren_pure rfl | (apply ren_mp; exact .inr (of_decide_eq_true rfl)) | (apply ren_os; exact .inr (of_decide_eq_true rfl)) | (apply ren_op; exact .inr (of_decide_eq_true rfl)) | fail))) <;> fail) (by ((repeat' (first | exact give_nil | exact back_nil | refine give_cons _ ?_ ?_ | refine back_cons ?_ ?_ | exact renhb_dead | exact renhb_mp (sideM_pure _) | exact renhb_mp (jk_pure _) | exact renhb_mp (goesM_pure _) | exact renhb_map (fun _ => rfl) | refine renhb_row ?_ | exact renl_nil | apply renl_cons | exact ren_pure rfl | (apply ren_mp; exact .inr (of_decide_eq_true rfl)) | (apply ren_os; exact .inr (of_decide_eq_true rfl)) | (apply ren_op; exact .inr (of_decide_eq_true rfl)) | fail))) <;> fail) ?_
  repeat' (first | refine walk ?_ | (first | (apply opsx_new; apply ex_makeMap; exact nle rfl)) | ((first | (apply ops_split_t; rfl; rfl; exact nle rfl) | (apply ops_split_f; rfl; rfl; exact nle rfl) | (apply awp_cond; rfl)); all_goals (intro hc; have hp := hc; first | (simp at hp; done) | ((try simp at hp); first | (exfalso; omega) | skip))) | (apply awp_cond_any; rfl))
  all_goals try (exfalso; omega)
  clear ap1
  (refine Awp.red (red_ren (τ := ⟨[(0, .op 0 0 0), (6, .mp 6), (43, .os 7 0 P.length), (44, .v (.int .i64 P.length)), (45, .v (.int .i64 ((0 : Nat) : Int)))], [(0, .own false 5 [mrow 5 0]), (1, .mp (sideM B)), (2, .mp (sideM M)), (3, .mp (sideM T)), (4, .mp (sideM (outL B M T (P.take 0)))), (5, .own false 2 []), (6, .mp (goesM (goesL B M T (P.take 0)))), (7, .own false 1 (P.map strAV))], 8⟩) [(5, 5), (7, 6), (8, 7)] rfl ?gts2 ?ghs2) ?_; (case gts2 => (repeat (first | exact tsok_nil | refine p_pure ?_ | refine p_op ?_ | refine p_osr ?_ | refine p_mp ?_ | refine p_osx ?_ ?_ | refine p_eq ?_ ?_)); all_goals (first | exact sideM_pure _ | exact goesM_pure _ | rfl | (rw [List.length_map]; done) | trace_state)); (case ghs2 => (repeat' (first | exact hsok_nil | refine q_dead ?_ | refine q_r ?_ | refine q_pm ?_ ?_ ?_ | refine q_sit ?_ ?_ | refine q_row ?_ ?_ | refine q_row3 ?_ ?_ ?_ ?_ | refine q_idx ?_ ?_ | exact renl_nil | apply renl_cons | exact ren_pure rfl | (apply ren_mp; (first | exact maps_low rfl | exact .inr (List.mem_cons_self ..) | exact .inr (List.mem_cons_of_mem _ (List.mem_cons_self ..)) | exact .inr (List.mem_cons_of_mem _ (List.mem_cons_of_mem _ (List.mem_cons_self ..))) | exact .inr (List.mem_cons_of_mem _ (List.mem_cons_of_mem _ (List.mem_cons_of_mem _ (List.mem_cons_self ..)))))) | refine ren_osq ?_ | refine ren_eq ?_ rfl | with_reducible exact List.Perm.refl _)); all_goals (first | exact sideM_pure _ | exact goesM_pure _ | rfl | (rw [List.length_map]; done) | trace_state)))
  refine awp_loop (fun n σ => ∃ i : Nat, i ≤ P.length ∧ n = P.length - i ∧ True ∧ σ = ⟨[(0, .op 0 0 0), (6, .mp 6), (43, .os 7 0 P.length), (44, .v (.int .i64 P.length)), (45, .v (.int .i64 (i : Int)))], [(0, .own false 5 [mrow 5 0]), (1, .mp (sideM B)), (2, .mp (sideM M)), (3, .mp (sideM T)), (4, .mp (sideM (outL B M T (P.take i)))), (5, .own false 2 []), (6, .mp (goesM (goesL B M T (P.take i)))), (7, .own false 1 (P.map strAV))], 8⟩) P.length ⟨0, by omega, rfl, trivial, rfl⟩ ?_
  rintro n σ ⟨i, hi, rfl, -, rfl⟩
  by_cases hlt : i < P.length
  · have hrow : (P.map strAV)[i]? = some (strAV P[i]) := by rw [List.getElem?_map, List.getElem?_eq_getElem hlt]; rfl
    have hro : rising entLt (outL B M T (P.take i)) = true := outL_inv hB hM hT _
    have aone : ACall C6.P 93 [.op 0 0 0, .v (str P[i])] [.own false 5 [mrow 5 0], .mp (sideM B), .mp (sideM M), .mp (sideM T), .mp (sideM (outL B M T (P.take i))), .own false 2 []] (.tup [thgAV (oneAt B M T P[i]).1, thgAV (oneAt B M T P[i]).2]) [.own false 5 [mrow 5 0], .mp (sideM B), .mp (sideM M), .mp (sideM T), .mp (sideM (outL B M T (P.take i))), .own false 2 []] := a_one B M T (outL B M T (P.take i)) [] P[i]
    have gone := good_one B M T P[i]
    have hpn := out_new (b := B) (m := M) (t := T) (risS_nodup rP) hlt
    have hgn := goes_new (b := B) (m := M) (t := T) (risS_nodup rP) hlt
    have hos := outL_succ (b := B) (m := M) (t := T) hlt
    have hgs := goesL_succ (b := B) (m := M) (t := T) hlt
    have hpu := side_putK hro gone.1 hpn
    rw [← hos] at hpu
    have hpp := side_putP (sideM (outL B M T (P.take i))) P[i] (oneAt B M T P[i]).1 (sideM_pure _)
    have aput : ACall C1.P 94 [.mp 0, .v (str P[i]), thgAV (oneAt B M T P[i]).1] [.mp (sideM (outL B M T (P.take i)))] (.tup []) [.mp (.map (if (oneAt B M T P[i]).1.kind = 0 then mapDel (sideM (outL B M T (P.take i))) P[i] else mapPut (sideM (outL B M T (P.take i))) P[i] (thgAV (oneAt B M T P[i]).1)))] := by
      have h := a_sput (sideM (outL B M T (P.take i))) P[i] (oneAt B M T P[i]).1 (sideM_pure _)
      by_cases h0 : (oneAt B M T P[i]).1.kind = 0
      · rw [if_pos h0] at h ⊢; exact h
      · rw [if_neg h0] at h ⊢; exact h
    have hbn : goesM (goesL B M T (P.take i)) = goesM (goesL B M T (P.take i)) := rfl
    generalize hX : oneAt B M T P[i] = X at *
    obtain ⟨x, y⟩ := X
    dsimp only at *
    repeat' (first | refine walk ?_ | (first | (refine o_ixo ?_)) | ((first | (apply ops_split_t; rfl; rfl; exact nle rfl) | (apply ops_split_f; rfl; rfl; exact nle rfl) | (apply awp_cond; rfl)); all_goals (intro hc; have hp := hc; first | (simp at hp; done) | ((try simp at hp); first | (exfalso; omega) | skip))) | (apply awp_cond_any; rfl))
    all_goals try (exfalso; first | omega | contradiction)
    apply to_call Tryd.func93 rfl rfl
    intro hIsFn
    refine o_callm [0, 1, 2, 3, 4, 5] [] [(0, .own false 5 [mrow 5 0]), (1, .mp (sideM B)), (2, .mp (sideM M)), (3, .mp (sideM T)), (4, .mp (sideM (outL B M T (P.take i)))), (5, .own false 2 [])] 8 (.tup [thgAV x, thgAV y]) hIsFn (aone) (by ((repeat' (first | exact argvl_nil | apply argvl_cons | exact argv_pure rfl | exact argv_ex | (apply argv_ren; apply ren_op; exact .inr (of_decide_eq_true rfl)) | (apply argv_ren; apply ren_mp; exact .inr (of_decide_eq_true rfl)) | (apply argv_ren; apply ren_os; exact .inr (of_decide_eq_true rfl)) | apply argv_agg | apply argv_clo))) <;> fail) (by ((repeat' (first | exact give_nil | exact back_nil | refine give_cons _ ?_ ?_ | refine back_cons ?_ ?_ | exact renhb_dead | exact renhb_mp (sideM_pure _) | exact renhb_mp (jk_pure _) | exact renhb_mp (goesM_pure _) | exact renhb_map (fun _ => rfl) | refine renhb_row ?_ | exact renl_nil | apply renl_cons | exact ren_pure rfl | (apply ren_mp; exact .inr (of_decide_eq_true rfl)) | (apply ren_os; exact .inr (of_decide_eq_true rfl)) | (apply ren_op; exact .inr (of_decide_eq_true rfl)) | exact renhb_map (l := ([] : List Cpy)) (f := Cpy.row) (fun _ => rfl)))) <;> fail) (by ((repeat' (first | exact give_nil | exact back_nil | refine give_cons _ ?_ ?_ | refine back_cons ?_ ?_ | exact renhb_dead | exact renhb_mp (sideM_pure _) | exact renhb_mp (jk_pure _) | exact renhb_mp (goesM_pure _) | exact renhb_map (fun _ => rfl) | refine renhb_row ?_ | exact renl_nil | apply renl_cons | exact ren_pure rfl | (apply ren_mp; exact .inr (of_decide_eq_true rfl)) | (apply ren_os; exact .inr (of_decide_eq_true rfl)) | (apply ren_op; exact .inr (of_decide_eq_true rfl)) | exact renhb_map (l := ([] : List Cpy)) (f := Cpy.row) (fun _ => rfl)))) <;> fail) ?_
    repeat' (first | refine walk ?_ | (first | (refine o_ixo ?_)) | ((first | (apply ops_split_t; rfl; rfl; exact nle rfl) | (apply ops_split_f; rfl; rfl; exact nle rfl) | (apply awp_cond; rfl)); all_goals (intro hc; have hp := hc; first | (simp at hp; done) | ((try simp at hp); first | (exfalso; omega) | skip))) | (apply awp_cond_any; rfl))
    all_goals try (exfalso; first | omega | contradiction)
    apply to_call Tryd.func94 rfl rfl
    intro hIsFn2
    refine o_callm [4] [] [(4, .mp (.map (if x.kind = 0 then mapDel (sideM (outL B M T (P.take i))) P[i] else mapPut (sideM (outL B M T (P.take i))) P[i] (thgAV x))))] 10 (.tup []) hIsFn2 (aput) (by ((repeat' (first | exact argvl_nil | apply argvl_cons | exact argv_pure rfl | exact argv_ex | (apply argv_ren; apply ren_op; exact .inr (of_decide_eq_true rfl)) | (apply argv_ren; apply ren_mp; exact .inr (of_decide_eq_true rfl)) | (apply argv_ren; apply ren_os; exact .inr (of_decide_eq_true rfl)) | apply argv_agg | apply argv_clo))) <;> fail) (by ((repeat' (first | exact give_nil | exact back_nil | refine give_cons _ ?_ ?_ | refine back_cons ?_ ?_ | exact renhb_dead | exact renhb_mp (sideM_pure _) | exact renhb_mp (jk_pure _) | exact renhb_mp (goesM_pure _) | exact renhb_map (fun _ => rfl) | refine renhb_row ?_ | exact renl_nil | apply renl_cons | exact ren_pure rfl | (apply ren_mp; exact .inr (of_decide_eq_true rfl)) | (apply ren_os; exact .inr (of_decide_eq_true rfl)) | (apply ren_op; exact .inr (of_decide_eq_true rfl)) | fail))) <;> fail) (by ((repeat' (first | exact give_nil | exact back_nil | refine give_cons _ ?_ ?_ | refine back_cons ?_ ?_ | exact renhb_dead | exact renhb_mp (sideM_pure _) | exact renhb_mp (jk_pure _) | exact renhb_mp (goesM_pure _) | exact renhb_map (fun _ => rfl) | refine renhb_row ?_ | exact renl_nil | apply renl_cons | exact ren_pure rfl | (apply ren_mp; exact .inr (of_decide_eq_true rfl)) | (apply ren_os; exact .inr (of_decide_eq_true rfl)) | (apply ren_op; exact .inr (of_decide_eq_true rfl)) | exact renhb_mp hpp))) <;> fail) ?_
    have d2 : decide (y.kind = 2) = true ∨ decide (y.kind = 2) = false := by cases decide (y.kind = 2) <;> simp
    rcases d2 with d2 | d2
    · have hy2 : y.kind = 2 := of_decide_eq_true d2
      have hy : y = ⟨2, y.text⟩ := thg_two hy2
      have hgp : mapPut (goesM (goesL B M T (P.take i))) P[i] (thgAV y) = goesM (goesL B M T (P.take (i + 1))) := by
        rw [hgs, if_pos hy2, hy]; exact goesM_put hgn
      repeat' (first | refine walk ?_ | (first | (apply opsx_store; apply ex_mapUpdate; rfl; rfl; rfl; rfl; rfl; rfl; rfl; rfl)) | ((first | (apply ops_split_t; rfl; rfl; exact nle rfl) | (apply ops_split_f; rfl; rfl; exact nle rfl) | (apply awp_cond; rfl)); all_goals (intro hc; have hp := hc; first | (simp at hp; done) | ((try simp at hp); first | (exfalso; omega) | skip))) | (apply awp_cond_any; rfl))
      all_goals try (exfalso; first | omega | contradiction)
      have hO2p := sideM_pure (outL B M T (P.take (i + 1)))
      have hG2p := goesM_pure (goesL B M T (P.take (i + 1)))
      refine ⟨P.length - (i + 1), ⟨[(0, .op 0 0 0), (6, .mp 6), (43, .os 7 0 P.length), (44, .v (.int .i64 P.length)), (45, .v (.int .i64 ((i + 1 : Nat) : Int)))], [(0, .own false 5 [mrow 5 0]), (1, .mp (sideM B)), (2, .mp (sideM M)), (3, .mp (sideM T)), (4, .mp (sideM (outL B M T (P.take (i + 1))))), (5, .own false 2 []), (6, .mp (goesM (goesL B M T (P.take (i + 1))))), (7, .own false 1 (P.map strAV))], 8⟩, by omega, ?_, i + 1, by omega, rfl, trivial, rfl⟩; ((generalize sideM (outL B M T (P.take (i + 1))) = O2 at hpu hO2p ⊢; generalize goesM (goesL B M T (P.take (i + 1))) = G2 at hgp hG2p ⊢; generalize (if x.kind = 0 then mapDel (sideM (outL B M T (P.take i))) P[i] else mapPut (sideM (outL B M T (P.take i))) P[i] (thgAV x)) = I1 at hpp hpu ⊢)); refine red_ren [(5, 5), (6, 6), (7, 7)] rfl ?gts ?ghs; (case gts => (repeat (first | exact tsok_nil | refine p_pure ?_ | refine p_op ?_ | refine p_osr ?_ | refine p_mp ?_ | refine p_osx ?_ ?_ | refine p_eq ?_ ?_)); all_goals (first | rfl | trace_state)); (case ghs => (repeat' (first | exact hsok_nil | refine q_mrow ?_ | refine q_pm ?_ ?_ ?_ | refine q_r ?_)); all_goals (first | with_reducible exact sideM_pure _ | with_reducible exact hO2p | with_reducible exact hG2p | with_reducible exact List.Perm.refl _ | with_reducible exact hpp | with_reducible exact hpu | with_reducible exact hpu.symm | exact hpu | exact hpu.symm | exact List.Perm.of_eq hgp | exact (List.Perm.of_eq hgp).symm | rfl | trace_state))
    · have hy2 : ¬ y.kind = 2 := of_decide_eq_false d2
      have hgp : goesM (goesL B M T (P.take i)) = goesM (goesL B M T (P.take (i + 1))) := by rw [hgs, if_neg hy2, List.append_nil]
      repeat' (first | refine walk ?_ | (first | (apply opsx_store; apply ex_mapUpdate; rfl; rfl; rfl; rfl; rfl; rfl; rfl; rfl)) | ((first | (apply ops_split_t; rfl; rfl; exact nle rfl) | (apply ops_split_f; rfl; rfl; exact nle rfl) | (apply awp_cond; rfl)); all_goals (intro hc; have hp := hc; first | (simp at hp; done) | ((try simp at hp); first | (exfalso; omega) | skip))) | (apply awp_cond_any; rfl))
      all_goals try (exfalso; first | omega | contradiction)
      have hO2p := sideM_pure (outL B M T (P.take (i + 1)))
      have hG2p := goesM_pure (goesL B M T (P.take (i + 1)))
      refine ⟨P.length - (i + 1), ⟨[(0, .op 0 0 0), (6, .mp 6), (43, .os 7 0 P.length), (44, .v (.int .i64 P.length)), (45, .v (.int .i64 ((i + 1 : Nat) : Int)))], [(0, .own false 5 [mrow 5 0]), (1, .mp (sideM B)), (2, .mp (sideM M)), (3, .mp (sideM T)), (4, .mp (sideM (outL B M T (P.take (i + 1))))), (5, .own false 2 []), (6, .mp (goesM (goesL B M T (P.take (i + 1))))), (7, .own false 1 (P.map strAV))], 8⟩, by omega, ?_, i + 1, by omega, rfl, trivial, rfl⟩; ((generalize sideM (outL B M T (P.take (i + 1))) = O2 at hpu hO2p ⊢; generalize goesM (goesL B M T (P.take (i + 1))) = G2 at hgp hG2p ⊢; generalize (if x.kind = 0 then mapDel (sideM (outL B M T (P.take i))) P[i] else mapPut (sideM (outL B M T (P.take i))) P[i] (thgAV x)) = I1 at hpp hpu ⊢)); refine red_ren [(5, 5), (6, 6), (7, 7)] rfl ?gts ?ghs; (case gts => (repeat (first | exact tsok_nil | refine p_pure ?_ | refine p_op ?_ | refine p_osr ?_ | refine p_mp ?_ | refine p_osx ?_ ?_ | refine p_eq ?_ ?_)); all_goals (first | rfl | trace_state)); (case ghs => (repeat' (first | exact hsok_nil | refine q_mrow ?_ | refine q_pm ?_ ?_ ?_ | refine q_r ?_)); all_goals (first | with_reducible exact sideM_pure _ | with_reducible exact hO2p | with_reducible exact hG2p | with_reducible exact List.Perm.refl _ | with_reducible exact hpp | with_reducible exact hpu | with_reducible exact hpu.symm | exact hpu | exact hpu.symm | exact List.Perm.of_eq hgp | exact (List.Perm.of_eq hgp).symm | rfl | trace_state))
  obtain rfl : i = P.length := by omega
  rw [List.take_length]
  have rG : risS ((goesL B M T P).map (·.1)) := goes_ris rP
  have lG := goes_len B M T P
  have gG : ∀ g, g ∈ goesL B M T P → pathErr g.1 = 0 ∧ g.2.length ≤ 300 := by rw [← hP]; exact goes_right hB hM hT
  have iO : MInv (outL B M T P) := by rw [← hP]; exact out_inv hB hM hT
  have lO : (outL B M T P).length ≤ 180 := by have := out_len B M T P []; simp at this; show (P.foldl _ []).length ≤ 180; omega
  have hms : mergeS B M T = match goS M T (goesL B M T P) ⟨outL B M T P, []⟩ with | none => none | some s => parsS M T ((s.out.map Ent.path).flatMap parsOf) s := by rw [← hP]; rfl
  repeat' (first | (refine Awp.red (red_ren (τ := ⟨[(0, .op 0 0 0), (6, .mp 6)], [(0, .own false 5 [mrow 5 0]), (1, .mp (sideM B)), (2, .mp (sideM M)), (3, .mp (sideM T)), (4, .mp (sideM (outL B M T P))), (5, .own false 2 []), (6, .mp (goesM (goesL B M T P)))], 7⟩) [(5, 5), (6, 6)] rfl ?_ ?_) ?_; rotate_left 2; exact m_merge_b B M T (goesL B M T P) (outL B M T P) (mergeS B M T) iO lO rG (Nat.le_trans lG lP) gG hms.symm; (focus ((repeat (first | exact tsok_nil | refine p_pure ?_ | refine p_op ?_ | refine p_osr ?_ | refine p_mp ?_ | refine p_osx ?_ ?_ | refine p_eq ?_ ?_)); all_goals trace_state)); (focus ((repeat' (first | exact hsok_nil | refine q_mrow ?_ | refine q_pm ?_ ?_ ?_ | refine q_r ?_)); all_goals (first | with_reducible exact sideM_pure _ | with_reducible exact goesM_pure _ | with_reducible exact jk_pure _ | with_reducible exact List.Perm.refl _ | rfl | trace_state)))) | refine walk1 ?_ | ((first | (apply ops_split_t; rfl; rfl; exact nle rfl) | (apply ops_split_f; rfl; rfl; exact nle rfl) | (apply awp_cond; rfl)); all_goals (intro hc; have hp := hc; first | (simp at hp; done) | ((try simp at hp); first | (exfalso; omega) | skip))) | (apply awp_cond_any; rfl))
end Go.Proofs.YtkkfilkmkdnboaaDoor

/- Merges in the abstract layer, 10: merge: merge. -/
set_option linter.unusedSimpArgs false
set_option linter.unnecessarySimpa false
set_option linter.unusedVariables false
set_option maxHeartbeats 1000000
namespace Go.Proofs.YtkkfilkmkdnboaaDoor
open Go.Ab Go.RowKit
set_option maxRecDepth 10000
attribute [local irreducible] Awp Ops OpsX Wanted Red ExOk Go.Ab.Fin ACall Rz RzL RzRows Enters ResOk RenV RenVL ArgV ArgVL
def k3At (a b c : List Str) : Nat → List Str
  | 0 => []
  | 1 => a
  | 2 => b
  | _ => c
set_option maxHeartbeats 16000000 in
theorem m_merge (B M T : List Ent) (hB : Right B) (hM : Right M) (hT : Right T) : ACall C5.P 71 [.op 0 0 0] (H5 B M T) (.v (.bool (mergeS B M T).isSome)) (H8o B M T (mergeS B M T)) := by
  have lB := hB.len
  have lM := hM.len
  have lT := hT.len
  have pth : ∀ u : List Ent, Right u → ∀ x, x ∈ u → x.path.length ≤ 1000000 := fun u hu x hx => Nat.le_trans (pathErr_small (entErr_zero (hu.ent x hx)).1) (by decide)
  have k1 := putS_all (L := B.map Ent.path) (l := []) List.Pairwise.nil
  have k2 := putS_all (L := M.map Ent.path) k1.1
  have k3 := putS_all (L := T.map Ent.path) k2.1
  have n1 := foldS_len (B.map Ent.path) []
  have n2 := foldS_len (M.map Ent.path) (keysP B M T 1)
  have n3 := foldS_len (T.map Ent.path) (keysP B M T 2)
  rw [List.length_map] at n1 n2 n3
  have lP : (allP B M T).length ≤ 180 := by
    rw [← keysP_all]
    have e1 : (keysP B M T 1).length ≤ 60 := by simp at n1; show ((B.map Ent.path).foldl putS []).length ≤ 60; omega
    have e2 : (keysP B M T 2).length ≤ 120 := by show ((M.map Ent.path).foldl putS (keysP B M T 1)).length ≤ 120; omega
    show ((T.map Ent.path).foldl putS (keysP B M T 2)).length ≤ 180
    omega
  have pall : ∀ i, ∀ s, s ∈ keysP B M T i → s.length ≤ 1000000 := fun i s hs => by
    have : s ∈ allP B M T := by
      rw [← keysP_all]
      match i with
      | 0 => cases hs
      | 1 => exact (k3.2 s).2 (.inr ((k2.2 s).2 (.inr hs)))
      | 2 => exact (k3.2 s).2 (.inr hs)
      | i + 3 => exact hs
    exact Nat.le_trans (pathErr_small (allP_right hB hM hT this)) (by decide)
  have cp1 := a_copy [] (keysP B M T 1) B List.nodup_nil (risS_nodup k1.1) (fun x => by rw [show keysP B M T 1 = (B.map Ent.path).foldl putS [] from rfl, k1.2 x]; simp) (by simp) (by omega) (fun s hs => by cases hs) (pth B hB)
  have cp2 := a_copy (keysP B M T 1) (keysP B M T 2) M (risS_nodup k1.1) (risS_nodup k2.1) (fun x => by exact (k2.2 x).trans Or.comm) (by show ((B.map Ent.path).foldl putS []).length ≤ _; simp at n1; omega) (by omega) (pall 1) (pth M hM)
  have cp3 := a_copy (keysP B M T 2) (keysP B M T 3) T (risS_nodup k2.1) (risS_nodup k3.1) (fun x => by exact (k3.2 x).trans Or.comm) (by show ((M.map Ent.path).foldl putS (keysP B M T 1)).length ≤ _; simp at n1; simp [keysP] at n2 ⊢; omega) (by omega) (pall 2) (pth T hT)
  rw [keysP_all] at cp3
  clear k1 k2 k3 n1 n2 n3
  generalize hK1 : keysP B M T 1 = K1 at *
  generalize hK2 : keysP B M T 2 = K2 at *
  refine acall_intro (C := C5) Tryd.func71 rfl _ Tryd.ntmps71 (Nat.le_of_ble_eq_true rfl) _ Tryd.results71 5 rfl rfl ?_
  refine Awp.red (red_nilc (C := C5) 0 4 2 rfl rfl (Nat.le_refl _) (by decide)) ?_
  repeat' (first | refine walk ?_ | (first | (apply opsx_new; apply ex_makeMap; exact nle rfl) | (apply opsx_new; focus (apply ex_buildSlice; rfl; rfl; rfl; rfl; rfl; rfl; rfl; exact nle rfl; exact nle rfl))) | ((first | (apply ops_split_t; rfl; rfl; exact nle rfl) | (apply ops_split_f; rfl; rfl; exact nle rfl) | (apply awp_cond; rfl)); all_goals (intro hc; have hp := hc; first | (simp at hp; done) | ((try simp at hp); first | (exfalso; omega) | skip))) | (apply awp_cond_any; rfl))
  all_goals try (exfalso; omega)
  (refine Awp.red (red_ren (τ := ⟨[(0, .op 0 0 0), (3, .mp 6), (31, .os 7 0 3), (32, .v (.int .i64 3)), (33, .v (.int .i64 0))], [(0, .own false 5 [mrow 5 0]), (1, .mp (sideM B)), (2, .mp (sideM M)), (3, .mp (sideM T)), (4, .mp (sideM [])), (5, .own false 2 []), (6, .mp (jk [])), (7, .own false 1 [[.mp 1], [.mp 2], [.mp 3]])], 8⟩) [(5, 5), (6, 6), (7, 7)] rfl ?gts2 ?ghs2) ?_; (case gts2 => (repeat (first | exact tsok_nil | refine p_pure ?_ | refine p_op ?_ | refine p_osr ?_ | refine p_mp ?_ | refine p_osx ?_ ?_ | refine p_eq ?_ ?_)); all_goals (first | exact sideM_pure _ | exact jk_pure _ | rfl | trace_state)); (case ghs2 => (repeat' (first | exact hsok_nil | refine q_dead ?_ | refine q_r ?_ | refine q_pm ?_ ?_ ?_ | refine q_sit ?_ ?_ | refine q_row ?_ ?_ | refine q_row3 ?_ ?_ ?_ ?_ | refine q_idx ?_ ?_ | exact renl_nil | apply renl_cons | exact ren_pure rfl | (apply ren_mp; (first | exact maps_low rfl | exact .inr (List.mem_cons_self ..) | exact .inr (List.mem_cons_of_mem _ (List.mem_cons_self ..)) | exact .inr (List.mem_cons_of_mem _ (List.mem_cons_of_mem _ (List.mem_cons_self ..))) | exact .inr (List.mem_cons_of_mem _ (List.mem_cons_of_mem _ (List.mem_cons_of_mem _ (List.mem_cons_self ..)))))) | refine ren_osq ?_ | refine ren_eq ?_ rfl | with_reducible exact List.Perm.refl _)); all_goals (first | exact sideM_pure _ | exact jk_pure _ | rfl | trace_state)))
  refine awp_loop (fun n σ => ∃ i : Nat, i ≤ 3 ∧ n = 3 - i ∧ True ∧ σ = ⟨[(0, .op 0 0 0), (3, .mp 6), (31, .os 7 0 3), (32, .v (.int .i64 3)), (33, .v (.int .i64 (i : Int)))], [(0, .own false 5 [mrow 5 0]), (1, .mp (sideM B)), (2, .mp (sideM M)), (3, .mp (sideM T)), (4, .mp (sideM [])), (5, .own false 2 []), (6, .mp (jk (k3At K1 K2 (allP B M T) i))), (7, .own false 1 [[.mp 1], [.mp 2], [.mp 3]])], 8⟩) 3 ⟨0, by omega, rfl, trivial, rfl⟩ ?_
  rintro n σ ⟨i, hi, rfl, -, rfl⟩
  rcases show i = 0 ∨ i = 1 ∨ i = 2 ∨ i = 3 from by omega with rfl | rfl | rfl | rfl
  · repeat' (first | refine walk ?_ | (first | (refine o_ixo ?_)) | ((first | (apply ops_split_t; rfl; rfl; exact nle rfl) | (apply ops_split_f; rfl; rfl; exact nle rfl) | (apply awp_cond; rfl)); all_goals (intro hc; have hp := hc; first | (simp at hp; done) | ((try simp at hp); first | (exfalso; omega) | skip))) | (apply awp_cond_any; rfl))
    all_goals try (exfalso; first | omega | contradiction)
    apply to_call Tryd.func92 rfl rfl
    intro hIsFn
    refine o_callm [6, 1] [] [(6, .mp (jk K1)), (1, .mp (sideM B))] 8 (.tup []) hIsFn (cp1) (by ((repeat' (first | exact argvl_nil | apply argvl_cons | exact argv_pure rfl | exact argv_ex | (apply argv_ren; apply ren_op; exact .inr (of_decide_eq_true rfl)) | (apply argv_ren; apply ren_mp; exact .inr (of_decide_eq_true rfl)) | (apply argv_ren; apply ren_os; exact .inr (of_decide_eq_true rfl)) | apply argv_agg | apply argv_clo))) <;> fail) (by ((repeat' (first | exact give_nil | exact back_nil | refine give_cons _ ?_ ?_ | refine back_cons ?_ ?_ | exact renhb_dead | exact renhb_mp (sideM_pure _) | exact renhb_mp (jk_pure _) | exact renhb_mp (goesM_pure _) | exact renhb_map (fun _ => rfl) | refine renhb_row ?_ | exact renl_nil | apply renl_cons | exact ren_pure rfl | (apply ren_mp; exact .inr (of_decide_eq_true rfl)) | (apply ren_os; exact .inr (of_decide_eq_true rfl)) | (apply ren_op; exact .inr (of_decide_eq_true rfl)) | fail))) <;> fail) (by ((repeat' (first | exact give_nil | exact back_nil | refine give_cons _ ?_ ?_ | refine back_cons ?_ ?_ | exact renhb_dead | exact renhb_mp (sideM_pure _) | exact renhb_mp (jk_pure _) | exact renhb_mp (goesM_pure _) | exact renhb_map (fun _ => rfl) | refine renhb_row ?_ | exact renl_nil | apply renl_cons | exact ren_pure rfl | (apply ren_mp; exact .inr (of_decide_eq_true rfl)) | (apply ren_os; exact .inr (of_decide_eq_true rfl)) | (apply ren_op; exact .inr (of_decide_eq_true rfl)) | fail))) <;> fail) ?_
    repeat' (first | refine walk ?_ | (first | (refine o_ixo ?_)) | ((first | (apply ops_split_t; rfl; rfl; exact nle rfl) | (apply ops_split_f; rfl; rfl; exact nle rfl) | (apply awp_cond; rfl)); all_goals (intro hc; have hp := hc; first | (simp at hp; done) | ((try simp at hp); first | (exfalso; omega) | skip))) | (apply awp_cond_any; rfl))
    refine ⟨3 - 1, _, by omega, red_ren (τ := ⟨[(0, .op 0 0 0), (3, .mp 6), (31, .os 7 0 3), (32, .v (.int .i64 3)), (33, .v (.int .i64 ((1 : Nat) : Int)))], [(0, .own false 5 [mrow 5 0]), (1, .mp (sideM B)), (2, .mp (sideM M)), (3, .mp (sideM T)), (4, .mp (sideM [])), (5, .own false 2 []), (6, .mp (jk (k3At K1 K2 (allP B M T) 1))), (7, .own false 1 [[.mp 1], [.mp 2], [.mp 3]])], 8⟩) [(5, 5), (6, 6), (7, 7)] rfl ?gts ?ghs, 1, by omega, rfl, trivial, rfl⟩; (case gts => (repeat (first | exact tsok_nil | refine p_pure ?_ | refine p_op ?_ | refine p_osr ?_ | refine p_mp ?_ | refine p_osx ?_ ?_ | refine p_eq ?_ ?_)); all_goals (first | exact sideM_pure _ | exact jk_pure _ | rfl | trace_state)); (case ghs => (repeat' (first | exact hsok_nil | refine q_dead ?_ | refine q_r ?_ | refine q_pm ?_ ?_ ?_ | refine q_sit ?_ ?_ | refine q_row ?_ ?_ | refine q_row3 ?_ ?_ ?_ ?_ | refine q_idx ?_ ?_ | exact renl_nil | apply renl_cons | exact ren_pure rfl | (apply ren_mp; (first | exact maps_low rfl | exact .inr (List.mem_cons_self ..) | exact .inr (List.mem_cons_of_mem _ (List.mem_cons_self ..)) | exact .inr (List.mem_cons_of_mem _ (List.mem_cons_of_mem _ (List.mem_cons_self ..))) | exact .inr (List.mem_cons_of_mem _ (List.mem_cons_of_mem _ (List.mem_cons_of_mem _ (List.mem_cons_self ..)))))) | refine ren_osq ?_ | refine ren_eq ?_ rfl | with_reducible exact List.Perm.refl _)); all_goals (first | exact sideM_pure _ | exact jk_pure _ | rfl | trace_state))
  · repeat' (first | refine walk ?_ | (first | (refine o_ixo ?_)) | ((first | (apply ops_split_t; rfl; rfl; exact nle rfl) | (apply ops_split_f; rfl; rfl; exact nle rfl) | (apply awp_cond; rfl)); all_goals (intro hc; have hp := hc; first | (simp at hp; done) | ((try simp at hp); first | (exfalso; omega) | skip))) | (apply awp_cond_any; rfl))
    all_goals try (exfalso; first | omega | contradiction)
    apply to_call Tryd.func92 rfl rfl
    intro hIsFn
    refine o_callm [6, 2] [] [(6, .mp (jk K2)), (2, .mp (sideM M))] 8 (.tup []) hIsFn (cp2) (by ((repeat' (first | exact argvl_nil | apply argvl_cons | exact argv_pure rfl | exact argv_ex | (apply argv_ren; apply ren_op; exact .inr (of_decide_eq_true rfl)) | (apply argv_ren; apply ren_mp; exact .inr (of_decide_eq_true rfl)) | (apply argv_ren; apply ren_os; exact .inr (of_decide_eq_true rfl)) | apply argv_agg | apply argv_clo))) <;> fail) (by ((repeat' (first | exact give_nil | exact back_nil | refine give_cons _ ?_ ?_ | refine back_cons ?_ ?_ | exact renhb_dead | exact renhb_mp (sideM_pure _) | exact renhb_mp (jk_pure _) | exact renhb_mp (goesM_pure _) | exact renhb_map (fun _ => rfl) | refine renhb_row ?_ | exact renl_nil | apply renl_cons | exact ren_pure rfl | (apply ren_mp; exact .inr (of_decide_eq_true rfl)) | (apply ren_os; exact .inr (of_decide_eq_true rfl)) | (apply ren_op; exact .inr (of_decide_eq_true rfl)) | fail))) <;> fail) (by ((repeat' (first | exact give_nil | exact back_nil | refine give_cons _ ?_ ?_ | refine back_cons ?_ ?_ | exact renhb_dead | exact renhb_mp (sideM_pure _) | exact renhb_mp (jk_pure _) | exact renhb_mp (goesM_pure _) | exact renhb_map (fun _ => rfl) | refine renhb_row ?_ | exact renl_nil | apply renl_cons | exact ren_pure rfl | (apply ren_mp; exact .inr (of_decide_eq_true rfl)) | (apply ren_os; exact .inr (of_decide_eq_true rfl)) | (apply ren_op; exact .inr (of_decide_eq_true rfl)) | fail))) <;> fail) ?_
    repeat' (first | refine walk ?_ | (first | (refine o_ixo ?_)) | ((first | (apply ops_split_t; rfl; rfl; exact nle rfl) | (apply ops_split_f; rfl; rfl; exact nle rfl) | (apply awp_cond; rfl)); all_goals (intro hc; have hp := hc; first | (simp at hp; done) | ((try simp at hp); first | (exfalso; omega) | skip))) | (apply awp_cond_any; rfl))
    refine ⟨3 - 2, _, by omega, red_ren (τ := ⟨[(0, .op 0 0 0), (3, .mp 6), (31, .os 7 0 3), (32, .v (.int .i64 3)), (33, .v (.int .i64 ((2 : Nat) : Int)))], [(0, .own false 5 [mrow 5 0]), (1, .mp (sideM B)), (2, .mp (sideM M)), (3, .mp (sideM T)), (4, .mp (sideM [])), (5, .own false 2 []), (6, .mp (jk (k3At K1 K2 (allP B M T) 2))), (7, .own false 1 [[.mp 1], [.mp 2], [.mp 3]])], 8⟩) [(5, 5), (6, 6), (7, 7)] rfl ?gts ?ghs, 2, by omega, rfl, trivial, rfl⟩; (case gts => (repeat (first | exact tsok_nil | refine p_pure ?_ | refine p_op ?_ | refine p_osr ?_ | refine p_mp ?_ | refine p_osx ?_ ?_ | refine p_eq ?_ ?_)); all_goals (first | exact sideM_pure _ | exact jk_pure _ | rfl | trace_state)); (case ghs => (repeat' (first | exact hsok_nil | refine q_dead ?_ | refine q_r ?_ | refine q_pm ?_ ?_ ?_ | refine q_sit ?_ ?_ | refine q_row ?_ ?_ | refine q_row3 ?_ ?_ ?_ ?_ | refine q_idx ?_ ?_ | exact renl_nil | apply renl_cons | exact ren_pure rfl | (apply ren_mp; (first | exact maps_low rfl | exact .inr (List.mem_cons_self ..) | exact .inr (List.mem_cons_of_mem _ (List.mem_cons_self ..)) | exact .inr (List.mem_cons_of_mem _ (List.mem_cons_of_mem _ (List.mem_cons_self ..))) | exact .inr (List.mem_cons_of_mem _ (List.mem_cons_of_mem _ (List.mem_cons_of_mem _ (List.mem_cons_self ..)))))) | refine ren_osq ?_ | refine ren_eq ?_ rfl | with_reducible exact List.Perm.refl _)); all_goals (first | exact sideM_pure _ | exact jk_pure _ | rfl | trace_state))
  · repeat' (first | refine walk ?_ | (first | (refine o_ixo ?_)) | ((first | (apply ops_split_t; rfl; rfl; exact nle rfl) | (apply ops_split_f; rfl; rfl; exact nle rfl) | (apply awp_cond; rfl)); all_goals (intro hc; have hp := hc; first | (simp at hp; done) | ((try simp at hp); first | (exfalso; omega) | skip))) | (apply awp_cond_any; rfl))
    all_goals try (exfalso; first | omega | contradiction)
    apply to_call Tryd.func92 rfl rfl
    intro hIsFn
    refine o_callm [6, 3] [] [(6, .mp (jk (allP B M T))), (3, .mp (sideM T))] 8 (.tup []) hIsFn (cp3) (by ((repeat' (first | exact argvl_nil | apply argvl_cons | exact argv_pure rfl | exact argv_ex | (apply argv_ren; apply ren_op; exact .inr (of_decide_eq_true rfl)) | (apply argv_ren; apply ren_mp; exact .inr (of_decide_eq_true rfl)) | (apply argv_ren; apply ren_os; exact .inr (of_decide_eq_true rfl)) | apply argv_agg | apply argv_clo))) <;> fail) (by ((repeat' (first | exact give_nil | exact back_nil | refine give_cons _ ?_ ?_ | refine back_cons ?_ ?_ | exact renhb_dead | exact renhb_mp (sideM_pure _) | exact renhb_mp (jk_pure _) | exact renhb_mp (goesM_pure _) | exact renhb_map (fun _ => rfl) | refine renhb_row ?_ | exact renl_nil | apply renl_cons | exact ren_pure rfl | (apply ren_mp; exact .inr (of_decide_eq_true rfl)) | (apply ren_os; exact .inr (of_decide_eq_true rfl)) | (apply ren_op; exact .inr (of_decide_eq_true rfl)) | fail))) <;> fail) (by ((repeat' (first | exact give_nil | exact back_nil | refine give_cons _ ?_ ?_ | refine back_cons ?_ ?_ | exact renhb_dead | exact renhb_mp (sideM_pure _) | exact renhb_mp (jk_pure _) | exact renhb_mp (goesM_pure _) | exact renhb_map (fun _ => rfl) | refine renhb_row ?_ | exact renl_nil | apply renl_cons | exact ren_pure rfl | (apply ren_mp; exact .inr (of_decide_eq_true rfl)) | (apply ren_os; exact .inr (of_decide_eq_true rfl)) | (apply ren_op; exact .inr (of_decide_eq_true rfl)) | fail))) <;> fail) ?_
    repeat' (first | refine walk ?_ | (first | (refine o_ixo ?_)) | ((first | (apply ops_split_t; rfl; rfl; exact nle rfl) | (apply ops_split_f; rfl; rfl; exact nle rfl) | (apply awp_cond; rfl)); all_goals (intro hc; have hp := hc; first | (simp at hp; done) | ((try simp at hp); first | (exfalso; omega) | skip))) | (apply awp_cond_any; rfl))
    refine ⟨3 - 3, _, by omega, red_ren (τ := ⟨[(0, .op 0 0 0), (3, .mp 6), (31, .os 7 0 3), (32, .v (.int .i64 3)), (33, .v (.int .i64 ((3 : Nat) : Int)))], [(0, .own false 5 [mrow 5 0]), (1, .mp (sideM B)), (2, .mp (sideM M)), (3, .mp (sideM T)), (4, .mp (sideM [])), (5, .own false 2 []), (6, .mp (jk (k3At K1 K2 (allP B M T) 3))), (7, .own false 1 [[.mp 1], [.mp 2], [.mp 3]])], 8⟩) [(5, 5), (6, 6), (7, 7)] rfl ?gts ?ghs, 3, by omega, rfl, trivial, rfl⟩; (case gts => (repeat (first | exact tsok_nil | refine p_pure ?_ | refine p_op ?_ | refine p_osr ?_ | refine p_mp ?_ | refine p_osx ?_ ?_ | refine p_eq ?_ ?_)); all_goals (first | exact sideM_pure _ | exact jk_pure _ | rfl | trace_state)); (case ghs => (repeat' (first | exact hsok_nil | refine q_dead ?_ | refine q_r ?_ | refine q_pm ?_ ?_ ?_ | refine q_sit ?_ ?_ | refine q_row ?_ ?_ | refine q_row3 ?_ ?_ ?_ ?_ | refine q_idx ?_ ?_ | exact renl_nil | apply renl_cons | exact ren_pure rfl | (apply ren_mp; (first | exact maps_low rfl | exact .inr (List.mem_cons_self ..) | exact .inr (List.mem_cons_of_mem _ (List.mem_cons_self ..)) | exact .inr (List.mem_cons_of_mem _ (List.mem_cons_of_mem _ (List.mem_cons_self ..))) | exact .inr (List.mem_cons_of_mem _ (List.mem_cons_of_mem _ (List.mem_cons_of_mem _ (List.mem_cons_self ..)))))) | refine ren_osq ?_ | refine ren_eq ?_ rfl | with_reducible exact List.Perm.refl _)); all_goals (first | exact sideM_pure _ | exact jk_pure _ | rfl | trace_state))
  · clear cp1 cp2 cp3 pall pth
    repeat' (first | (refine Awp.red (red_ren (τ := ⟨[(0, .op 0 0 0), (3, .mp 6)], [(0, .own false 5 [mrow 5 0]), (1, .mp (sideM B)), (2, .mp (sideM M)), (3, .mp (sideM T)), (4, .mp (sideM [])), (5, .own false 2 []), (6, .mp (jk (allP B M T)))], 7⟩) [(5, 5), (6, 6)] rfl ?_ ?_) ?_; rotate_left 2; exact m_merge_a B M T hB hM hT (allP B M T) rfl lP; (focus ((repeat (first | exact tsok_nil | refine p_pure ?_ | refine p_op ?_ | refine p_osr ?_ | refine p_mp ?_ | refine p_osx ?_ ?_ | refine p_eq ?_ ?_)); all_goals trace_state)); (focus ((repeat' (first | exact hsok_nil | refine q_mrow ?_ | refine q_pm ?_ ?_ ?_ | refine q_r ?_)); all_goals (first | with_reducible exact sideM_pure _ | with_reducible exact goesM_pure _ | with_reducible exact jk_pure _ | with_reducible exact List.Perm.refl _ | rfl | trace_state)))) | refine walk1 ?_ | ((first | (apply ops_split_t; rfl; rfl; exact nle rfl) | (apply ops_split_f; rfl; rfl; exact nle rfl) | (apply awp_cond; rfl)); all_goals (intro hc; have hp := hc; first | (simp at hp; done) | ((try simp at hp); first | (exfalso; omega) | skip))) | (apply awp_cond_any; rfl))
end Go.Proofs.YtkkfilkmkdnboaaDoor

/- Merges in the abstract layer, 11: an entry with its version. -/
set_option linter.unusedSimpArgs false
set_option linter.unnecessarySimpa false
set_option linter.unusedVariables false
set_option maxHeartbeats 1000000
namespace Go.Proofs.YtkkfilkmkdnboaaDoor
open Go.Ab Go.RowKit
set_option maxRecDepth 10000
attribute [local irreducible] Awp Ops OpsX Wanted Red ExOk Go.Ab.Fin ACall Rz RzL RzRows Enters ResOk RenV RenVL ArgV ArgVL

theorem q_mrow6 {L : List (Nat × Nat)} {σ : St} {n n' c c' k : Nat} {ex ex' : Bool} {l : List (Nat × HB)} (hl : HsOk L 6 σ l) (hm : Maps L 6 n n' := by (first | exact maps_low rfl | exact .inr (List.mem_cons_self ..) | exact .inr (List.mem_cons_of_mem _ (List.mem_cons_self ..)) | exact .inr (List.mem_cons_of_mem _ (List.mem_cons_of_mem _ (List.mem_cons_self ..))) | exact .inr (List.mem_cons_of_mem _ (List.mem_cons_of_mem _ (List.mem_cons_of_mem _ (List.mem_cons_self ..)))))) (hc : Maps L 6 c c' := by (first | exact maps_low rfl | exact .inr (List.mem_cons_self ..) | exact .inr (List.mem_cons_of_mem _ (List.mem_cons_self ..)) | exact .inr (List.mem_cons_of_mem _ (List.mem_cons_of_mem _ (List.mem_cons_self ..))) | exact .inr (List.mem_cons_of_mem _ (List.mem_cons_of_mem _ (List.mem_cons_of_mem _ (List.mem_cons_self ..)))))) (hx : getH σ.hs n = .own ex 5 [mrow c k] := by rfl) (he : ex' = true → ex = true := by first | exact id | exact nofun) : HsOk L 6 σ ((n', .own ex' 5 [mrow c' k]) :: l) :=
  hsok_own hm hx he (renrows_cons (renl_cons (ren_mp (maps_low rfl)) (renl_cons (ren_mp (maps_low rfl)) (renl_cons (ren_mp (maps_low rfl)) (renl_cons (ren_mp (maps_low rfl)) (renl_cons (ren_os hc) renl_nil))))) renrows_nil) hl
/-- An entry of what comes of a merge. -/
def entW (m t o : List Ent) (p : Str) : Ent := verE m t (entT p (stT o p))
theorem hit_look {t : List Ent} {p : Str} (hs : rising entLt t = true) (h : hitE t p = true) : ∃ hk : posE t p < t.length, look t p = some t[posE t p] := by
  obtain ⟨hk, _, h2, _⟩ := hitE_at hs h
  exact ⟨hk, h2⟩
theorem vt_yes {t : List Ent} {p : Str} {x : Thg} {y : Ent} (hl : look t p = some y) (hx : GoodT x) (h0 : ¬ x.kind = 0) (he : stT t p = x) : verAt t (entT p x) = some y.ver := by
  unfold verAt
  rw [show (entT p x).path = p from rfl, hl, thg_ent hx h0]
  unfold stT at he
  rw [hl] at he
  have he : thgOf y = x := he
  simp only [he, if_true]
theorem vt_ne {t : List Ent} {p : Str} {x : Thg} (hx : GoodT x) (h0 : ¬ x.kind = 0) (he : ¬ stT t p = x) : verAt t (entT p x) = none := by
  unfold verAt
  rw [show (entT p x).path = p from rfl, thg_ent hx h0]
  unfold stT at he
  cases hl : look t p with
  | none => rfl
  | some y =>
    rw [hl] at he
    have he : ¬ thgOf y = x := he
    simp only [he, if_false]
theorem vt_none {t : List Ent} {p : Str} {x : Thg} (h : hitE t p = false) : verAt t (entT p x) = none := by
  unfold verAt
  rw [look_hit] at h
  rw [show (entT p x).path = p from rfl]
  cases hl : look t p with
  | none => rfl
  | some y => rw [hl] at h; cases h
set_option maxHeartbeats 4000000 in
theorem m_entry (B M T O : List Ent) (cs : List Cpy) (p : Str) (hM : rising entLt M = true) (hT : rising entLt T = true) (lM : M.length ≤ 60) (lT : T.length ≤ 60) (h0 : ¬ (stT O p).kind = 0) :
    ACall C6.P 73 [.op 0 0 0, .v (str p), entAV M, entAV T] (H6 B M T O cs) (.agg (entW M T O p).row) (H6 B M T O cs) := by
  have g1 := side_get O p
  have g2 := side_get T p
  have g3 := side_get M p
  have at1 := a_at T p (by omega) hT
  have at2 := a_at M p (by omega) hM
  have hx := good_st O p
  have hE : (entW M T O p).row = [.v (str p), .v (.bool (decide ((stT O p).kind = 1))), .v (str (stT O p).text), .v (.int .i64 (verOf M T (entT p (stT O p))))] := rfl
  rw [hE]
  generalize hxx : stT O p = x at *
  clear hE
  have key : ∀ v : Int, verOf M T (entT p x) = v → ACall C6.P 73 [.op 0 0 0, .v (str p), entAV M, entAV T] (H6 B M T O cs) (.agg [.v (str p), .v (.bool (decide (x.kind = 1))), .v (str x.text), .v (.int .i64 v)]) (H6 B M T O cs) → ACall C6.P 73 [.op 0 0 0, .v (str p), entAV M, entAV T] (H6 B M T O cs) (.agg [.v (str p), .v (.bool (decide (x.kind = 1))), .v (str x.text), .v (.int .i64 (verOf M T (entT p x)))]) (H6 B M T O cs) := fun v e h => by rw [e]; exact h
  cases hT1 : hitE T p with
  | true =>
    rw [hT1] at at1
    obtain ⟨kT, lkT⟩ := hit_look hT hT1
    have rowT : (T.map Ent.row)[posE T p]? = some T[posE T p].row := getRow kT
    generalize hPT : posE T p = PT at *
    by_cases eT : stT T p = x
    · refine key T[PT].ver (by unfold verOf; rw [vt_yes lkT hx h0 eT]) ?_
      clear key
      have dT : decide (stT T p = x) = true := decide_eq_true eT
      generalize stT T p = tt at *
      generalize stT M p = mm at *
      generalize T[PT] = yT at *
      refine acall_intro (C := C6) Tryd.func73 rfl _ Tryd.ntmps73 (Nat.le_of_ble_eq_true rfl) _ Tryd.results73 6 rfl rfl ?_
      repeat (first | refine walk ?_ | (apply opsx_val; apply ex_get; (case hm => rfl); (case hn => rfl); (case hk => rfl); (case hT => rfl); (case he => rfl); (case hK => rfl); (case hks => rfl); (case hz => exact zero_thg); (case hzv => exact zero_M); (case hx => exact g1); (case hN => exact nle rfl)) | (apply opsx_val; apply ex_get; (case hm => rfl); (case hn => rfl); (case hk => rfl); (case hT => rfl); (case he => rfl); (case hK => rfl); (case hks => rfl); (case hz => exact zero_thg); (case hzv => exact zero_M); (case hx => exact g2); (case hN => exact nle rfl)) | (apply opsx_val; apply ex_get; (case hm => rfl); (case hn => rfl); (case hk => rfl); (case hT => rfl); (case he => rfl); (case hK => rfl); (case hks => rfl); (case hz => exact zero_thg); (case hzv => exact zero_M); (case hx => exact g3); (case hN => exact nle rfl)) | (apply opsx_val; apply ex_rowEq; rfl; rfl; exact eqK_thg; exact rowEq_thg _ _; (first | exact .inl ⟨rfl, rfl⟩ | exact .inr ⟨rfl, rfl⟩); exact nle rfl) | (apply to_call Tryd.func60 rfl rfl; intro hIsFn; refine o_callp hIsFn (at1 ..) ?_) | (apply to_call Tryd.func60 rfl rfl; intro hIsFn; refine o_callp hIsFn (at2 ..) ?_))
      (apply fin_ownr (rs := [.cell 8 65]) [] 6; (case hr => (repeat (first | exact resok_nil | (apply resok_tmp; rfl) | (apply resok_cell; rfl; rfl; rfl; rfl; rfl)))); (case hL => rfl); (case hh => (repeat' (first | exact hsok_nil | refine q_mrow6 ?_ | refine q_pm ?_ ?_ ?_ | refine q_r ?_)); all_goals (first | with_reducible exact sideM_pure _ | with_reducible exact List.Perm.refl _ | rfl | trace_state)); (case hi => exact rfl); (case hz => first | rfl | (simp [pack, AV.ren, AV.ren.renL, lookN, getT, enumT]; done) | (simp [pack, AV.ren, AV.ren.renL, lookN, getT, enumT, *]; done)))

    · have dT : decide (stT T p = x) = false := decide_eq_false eT
      have nT := vt_ne hx h0 eT
      cases hM1 : hitE M p with
      | true =>
        rw [hM1] at at2
        obtain ⟨kM, lkM⟩ := hit_look hM hM1
        have rowM : (M.map Ent.row)[posE M p]? = some M[posE M p].row := getRow kM
        generalize hPM : posE M p = PM at *
        by_cases eM : stT M p = x
        · refine key M[PM].ver (by unfold verOf; rw [nT, vt_yes lkM hx h0 eM]) ?_
          clear key
          have dM : decide (stT M p = x) = true := decide_eq_true eM
          generalize stT T p = tt at *
          generalize stT M p = mm at *
          generalize M[PM] = yM at *
          refine acall_intro (C := C6) Tryd.func73 rfl _ Tryd.ntmps73 (Nat.le_of_ble_eq_true rfl) _ Tryd.results73 6 rfl rfl ?_
          repeat (first | refine walk ?_ | (apply opsx_val; apply ex_get; (case hm => rfl); (case hn => rfl); (case hk => rfl); (case hT => rfl); (case he => rfl); (case hK => rfl); (case hks => rfl); (case hz => exact zero_thg); (case hzv => exact zero_M); (case hx => exact g1); (case hN => exact nle rfl)) | (apply opsx_val; apply ex_get; (case hm => rfl); (case hn => rfl); (case hk => rfl); (case hT => rfl); (case he => rfl); (case hK => rfl); (case hks => rfl); (case hz => exact zero_thg); (case hzv => exact zero_M); (case hx => exact g2); (case hN => exact nle rfl)) | (apply opsx_val; apply ex_get; (case hm => rfl); (case hn => rfl); (case hk => rfl); (case hT => rfl); (case he => rfl); (case hK => rfl); (case hks => rfl); (case hz => exact zero_thg); (case hzv => exact zero_M); (case hx => exact g3); (case hN => exact nle rfl)) | (apply opsx_val; apply ex_rowEq; rfl; rfl; exact eqK_thg; exact rowEq_thg _ _; (first | exact .inl ⟨rfl, rfl⟩ | exact .inr ⟨rfl, rfl⟩); exact nle rfl) | (apply to_call Tryd.func60 rfl rfl; intro hIsFn; refine o_callp hIsFn (at1 ..) ?_) | (apply to_call Tryd.func60 rfl rfl; intro hIsFn; refine o_callp hIsFn (at2 ..) ?_))
          (apply fin_ownr (rs := [.cell 8 65]) [] 6; (case hr => (repeat (first | exact resok_nil | (apply resok_tmp; rfl) | (apply resok_cell; rfl; rfl; rfl; rfl; rfl)))); (case hL => rfl); (case hh => (repeat' (first | exact hsok_nil | refine q_mrow6 ?_ | refine q_pm ?_ ?_ ?_ | refine q_r ?_)); all_goals (first | with_reducible exact sideM_pure _ | with_reducible exact List.Perm.refl _ | rfl | trace_state)); (case hi => exact rfl); (case hz => first | rfl | (simp [pack, AV.ren, AV.ren.renL, lookN, getT, enumT]; done) | (simp [pack, AV.ren, AV.ren.renL, lookN, getT, enumT, *]; done)))
        · refine key 1 (by unfold verOf; rw [nT, vt_ne hx h0 eM]) ?_
          clear key
          have dM : decide (stT M p = x) = false := decide_eq_false eM
          generalize stT T p = tt at *
          generalize stT M p = mm at *
          refine acall_intro (C := C6) Tryd.func73 rfl _ Tryd.ntmps73 (Nat.le_of_ble_eq_true rfl) _ Tryd.results73 6 rfl rfl ?_
          repeat (first | refine walk ?_ | (apply opsx_val; apply ex_get; (case hm => rfl); (case hn => rfl); (case hk => rfl); (case hT => rfl); (case he => rfl); (case hK => rfl); (case hks => rfl); (case hz => exact zero_thg); (case hzv => exact zero_M); (case hx => exact g1); (case hN => exact nle rfl)) | (apply opsx_val; apply ex_get; (case hm => rfl); (case hn => rfl); (case hk => rfl); (case hT => rfl); (case he => rfl); (case hK => rfl); (case hks => rfl); (case hz => exact zero_thg); (case hzv => exact zero_M); (case hx => exact g2); (case hN => exact nle rfl)) | (apply opsx_val; apply ex_get; (case hm => rfl); (case hn => rfl); (case hk => rfl); (case hT => rfl); (case he => rfl); (case hK => rfl); (case hks => rfl); (case hz => exact zero_thg); (case hzv => exact zero_M); (case hx => exact g3); (case hN => exact nle rfl)) | (apply opsx_val; apply ex_rowEq; rfl; rfl; exact eqK_thg; exact rowEq_thg _ _; (first | exact .inl ⟨rfl, rfl⟩ | exact .inr ⟨rfl, rfl⟩); exact nle rfl) | (apply to_call Tryd.func60 rfl rfl; intro hIsFn; refine o_callp hIsFn (at1 ..) ?_) | (apply to_call Tryd.func60 rfl rfl; intro hIsFn; refine o_callp hIsFn (at2 ..) ?_))
          (apply fin_ownr (rs := [.cell 8 65]) [] 6; (case hr => (repeat (first | exact resok_nil | (apply resok_tmp; rfl) | (apply resok_cell; rfl; rfl; rfl; rfl; rfl)))); (case hL => rfl); (case hh => (repeat' (first | exact hsok_nil | refine q_mrow6 ?_ | refine q_pm ?_ ?_ ?_ | refine q_r ?_)); all_goals (first | with_reducible exact sideM_pure _ | with_reducible exact List.Perm.refl _ | rfl | trace_state)); (case hi => exact rfl); (case hz => first | rfl | (simp [pack, AV.ren, AV.ren.renL, lookN, getT, enumT]; done) | (simp [pack, AV.ren, AV.ren.renL, lookN, getT, enumT, *]; done)))
      | false =>
        rw [hM1] at at2
        refine key 1 (by unfold verOf; rw [nT, vt_none hM1]) ?_
        clear key
        generalize stT T p = tt at *
        generalize stT M p = mm at *
        refine acall_intro (C := C6) Tryd.func73 rfl _ Tryd.ntmps73 (Nat.le_of_ble_eq_true rfl) _ Tryd.results73 6 rfl rfl ?_
        repeat (first | refine walk ?_ | (apply opsx_val; apply ex_get; (case hm => rfl); (case hn => rfl); (case hk => rfl); (case hT => rfl); (case he => rfl); (case hK => rfl); (case hks => rfl); (case hz => exact zero_thg); (case hzv => exact zero_M); (case hx => exact g1); (case hN => exact nle rfl)) | (apply opsx_val; apply ex_get; (case hm => rfl); (case hn => rfl); (case hk => rfl); (case hT => rfl); (case he => rfl); (case hK => rfl); (case hks => rfl); (case hz => exact zero_thg); (case hzv => exact zero_M); (case hx => exact g2); (case hN => exact nle rfl)) | (apply opsx_val; apply ex_get; (case hm => rfl); (case hn => rfl); (case hk => rfl); (case hT => rfl); (case he => rfl); (case hK => rfl); (case hks => rfl); (case hz => exact zero_thg); (case hzv => exact zero_M); (case hx => exact g3); (case hN => exact nle rfl)) | (apply opsx_val; apply ex_rowEq; rfl; rfl; exact eqK_thg; exact rowEq_thg _ _; (first | exact .inl ⟨rfl, rfl⟩ | exact .inr ⟨rfl, rfl⟩); exact nle rfl) | (apply to_call Tryd.func60 rfl rfl; intro hIsFn; refine o_callp hIsFn (at1 ..) ?_) | (apply to_call Tryd.func60 rfl rfl; intro hIsFn; refine o_callp hIsFn (at2 ..) ?_))
        (apply fin_ownr (rs := [.cell 8 65]) [] 6; (case hr => (repeat (first | exact resok_nil | (apply resok_tmp; rfl) | (apply resok_cell; rfl; rfl; rfl; rfl; rfl)))); (case hL => rfl); (case hh => (repeat' (first | exact hsok_nil | refine q_mrow6 ?_ | refine q_pm ?_ ?_ ?_ | refine q_r ?_)); all_goals (first | with_reducible exact sideM_pure _ | with_reducible exact List.Perm.refl _ | rfl | trace_state)); (case hi => exact rfl); (case hz => first | rfl | (simp [pack, AV.ren, AV.ren.renL, lookN, getT, enumT]; done) | (simp [pack, AV.ren, AV.ren.renL, lookN, getT, enumT, *]; done)))
  | false =>
    rw [hT1] at at1
    have nT := vt_none (x := x) hT1
    cases hM1 : hitE M p with
    | true =>
      rw [hM1] at at2
      obtain ⟨kM, lkM⟩ := hit_look hM hM1
      have rowM : (M.map Ent.row)[posE M p]? = some M[posE M p].row := getRow kM
      generalize hPM : posE M p = PM at *
      by_cases eM : stT M p = x
      · refine key M[PM].ver (by unfold verOf; rw [nT, vt_yes lkM hx h0 eM]) ?_
        clear key
        have dM : decide (stT M p = x) = true := decide_eq_true eM
        generalize stT T p = tt at *
        generalize stT M p = mm at *
        generalize M[PM] = yM at *
        refine acall_intro (C := C6) Tryd.func73 rfl _ Tryd.ntmps73 (Nat.le_of_ble_eq_true rfl) _ Tryd.results73 6 rfl rfl ?_
        repeat (first | refine walk ?_ | (apply opsx_val; apply ex_get; (case hm => rfl); (case hn => rfl); (case hk => rfl); (case hT => rfl); (case he => rfl); (case hK => rfl); (case hks => rfl); (case hz => exact zero_thg); (case hzv => exact zero_M); (case hx => exact g1); (case hN => exact nle rfl)) | (apply opsx_val; apply ex_get; (case hm => rfl); (case hn => rfl); (case hk => rfl); (case hT => rfl); (case he => rfl); (case hK => rfl); (case hks => rfl); (case hz => exact zero_thg); (case hzv => exact zero_M); (case hx => exact g2); (case hN => exact nle rfl)) | (apply opsx_val; apply ex_get; (case hm => rfl); (case hn => rfl); (case hk => rfl); (case hT => rfl); (case he => rfl); (case hK => rfl); (case hks => rfl); (case hz => exact zero_thg); (case hzv => exact zero_M); (case hx => exact g3); (case hN => exact nle rfl)) | (apply opsx_val; apply ex_rowEq; rfl; rfl; exact eqK_thg; exact rowEq_thg _ _; (first | exact .inl ⟨rfl, rfl⟩ | exact .inr ⟨rfl, rfl⟩); exact nle rfl) | (apply to_call Tryd.func60 rfl rfl; intro hIsFn; refine o_callp hIsFn (at1 ..) ?_) | (apply to_call Tryd.func60 rfl rfl; intro hIsFn; refine o_callp hIsFn (at2 ..) ?_))
        (apply fin_ownr (rs := [.cell 8 65]) [] 6; (case hr => (repeat (first | exact resok_nil | (apply resok_tmp; rfl) | (apply resok_cell; rfl; rfl; rfl; rfl; rfl)))); (case hL => rfl); (case hh => (repeat' (first | exact hsok_nil | refine q_mrow6 ?_ | refine q_pm ?_ ?_ ?_ | refine q_r ?_)); all_goals (first | with_reducible exact sideM_pure _ | with_reducible exact List.Perm.refl _ | rfl | trace_state)); (case hi => exact rfl); (case hz => first | rfl | (simp [pack, AV.ren, AV.ren.renL, lookN, getT, enumT]; done) | (simp [pack, AV.ren, AV.ren.renL, lookN, getT, enumT, *]; done)))
      · refine key 1 (by unfold verOf; rw [nT, vt_ne hx h0 eM]) ?_
        clear key
        have dM : decide (stT M p = x) = false := decide_eq_false eM
        generalize stT T p = tt at *
        generalize stT M p = mm at *
        refine acall_intro (C := C6) Tryd.func73 rfl _ Tryd.ntmps73 (Nat.le_of_ble_eq_true rfl) _ Tryd.results73 6 rfl rfl ?_
        repeat (first | refine walk ?_ | (apply opsx_val; apply ex_get; (case hm => rfl); (case hn => rfl); (case hk => rfl); (case hT => rfl); (case he => rfl); (case hK => rfl); (case hks => rfl); (case hz => exact zero_thg); (case hzv => exact zero_M); (case hx => exact g1); (case hN => exact nle rfl)) | (apply opsx_val; apply ex_get; (case hm => rfl); (case hn => rfl); (case hk => rfl); (case hT => rfl); (case he => rfl); (case hK => rfl); (case hks => rfl); (case hz => exact zero_thg); (case hzv => exact zero_M); (case hx => exact g2); (case hN => exact nle rfl)) | (apply opsx_val; apply ex_get; (case hm => rfl); (case hn => rfl); (case hk => rfl); (case hT => rfl); (case he => rfl); (case hK => rfl); (case hks => rfl); (case hz => exact zero_thg); (case hzv => exact zero_M); (case hx => exact g3); (case hN => exact nle rfl)) | (apply opsx_val; apply ex_rowEq; rfl; rfl; exact eqK_thg; exact rowEq_thg _ _; (first | exact .inl ⟨rfl, rfl⟩ | exact .inr ⟨rfl, rfl⟩); exact nle rfl) | (apply to_call Tryd.func60 rfl rfl; intro hIsFn; refine o_callp hIsFn (at1 ..) ?_) | (apply to_call Tryd.func60 rfl rfl; intro hIsFn; refine o_callp hIsFn (at2 ..) ?_))
        (apply fin_ownr (rs := [.cell 8 65]) [] 6; (case hr => (repeat (first | exact resok_nil | (apply resok_tmp; rfl) | (apply resok_cell; rfl; rfl; rfl; rfl; rfl)))); (case hL => rfl); (case hh => (repeat' (first | exact hsok_nil | refine q_mrow6 ?_ | refine q_pm ?_ ?_ ?_ | refine q_r ?_)); all_goals (first | with_reducible exact sideM_pure _ | with_reducible exact List.Perm.refl _ | rfl | trace_state)); (case hi => exact rfl); (case hz => first | rfl | (simp [pack, AV.ren, AV.ren.renL, lookN, getT, enumT]; done) | (simp [pack, AV.ren, AV.ren.renL, lookN, getT, enumT, *]; done)))
    | false =>
      rw [hM1] at at2
      refine key 1 (by unfold verOf; rw [nT, vt_none hM1]) ?_
      clear key
      generalize stT T p = tt at *
      generalize stT M p = mm at *
      refine acall_intro (C := C6) Tryd.func73 rfl _ Tryd.ntmps73 (Nat.le_of_ble_eq_true rfl) _ Tryd.results73 6 rfl rfl ?_
      repeat (first | refine walk ?_ | (apply opsx_val; apply ex_get; (case hm => rfl); (case hn => rfl); (case hk => rfl); (case hT => rfl); (case he => rfl); (case hK => rfl); (case hks => rfl); (case hz => exact zero_thg); (case hzv => exact zero_M); (case hx => exact g1); (case hN => exact nle rfl)) | (apply opsx_val; apply ex_get; (case hm => rfl); (case hn => rfl); (case hk => rfl); (case hT => rfl); (case he => rfl); (case hK => rfl); (case hks => rfl); (case hz => exact zero_thg); (case hzv => exact zero_M); (case hx => exact g2); (case hN => exact nle rfl)) | (apply opsx_val; apply ex_get; (case hm => rfl); (case hn => rfl); (case hk => rfl); (case hT => rfl); (case he => rfl); (case hK => rfl); (case hks => rfl); (case hz => exact zero_thg); (case hzv => exact zero_M); (case hx => exact g3); (case hN => exact nle rfl)) | (apply opsx_val; apply ex_rowEq; rfl; rfl; exact eqK_thg; exact rowEq_thg _ _; (first | exact .inl ⟨rfl, rfl⟩ | exact .inr ⟨rfl, rfl⟩); exact nle rfl) | (apply to_call Tryd.func60 rfl rfl; intro hIsFn; refine o_callp hIsFn (at1 ..) ?_) | (apply to_call Tryd.func60 rfl rfl; intro hIsFn; refine o_callp hIsFn (at2 ..) ?_))
      (apply fin_ownr (rs := [.cell 8 65]) [] 6; (case hr => (repeat (first | exact resok_nil | (apply resok_tmp; rfl) | (apply resok_cell; rfl; rfl; rfl; rfl; rfl)))); (case hL => rfl); (case hh => (repeat' (first | exact hsok_nil | refine q_mrow6 ?_ | refine q_pm ?_ ?_ ?_ | refine q_r ?_)); all_goals (first | with_reducible exact sideM_pure _ | with_reducible exact List.Perm.refl _ | rfl | trace_state)); (case hi => exact rfl); (case hz => first | rfl | (simp [pack, AV.ren, AV.ren.renL, lookN, getT, enumT]; done) | (simp [pack, AV.ren, AV.ren.renL, lookN, getT, enumT, *]; done)))
end Go.Proofs.YtkkfilkmkdnboaaDoor
