/- Journals in the abstract layer, 9: the reference's FollowOf. -/
import Derived.Test.YtkkfilkmkdnboaaDoorJo7
import Derived.Test.YtkkfilkmkdnboaaDoorJo6
set_option linter.unusedSimpArgs false
set_option linter.unnecessarySimpa false
set_option linter.unusedVariables false
set_option maxHeartbeats 1000000
namespace Go.Proofs.YtkkfilkmkdnboaaDoor
open Go.Ab Go.RowKit
set_option maxRecDepth 10000
attribute [local irreducible] Awp Ops OpsX Wanted Red ExOk Go.Ab.Fin ACall Rz RzL RzRows Enters ResOk RenV RenVL ArgV ArgVL

set_option maxHeartbeats 4000000 in
theorem a_followWR (t : List Ent) (cursor : Int) (p : Pag) (hR : Right t) (h2 : isCur cursor = true) (h3 : p.reset = false) (hb : PBig p) : AFn C.P 26 [entAV t, .v (.int .i64 cursor), .agg p.row] (resF (followW t cursor p)) := by
  have hc := a_checkTreeR t hR.big
  rw [right_iff.2 hR] at hc
  have hi := a_isCursorR cursor
  have hcb : 0 ≤ cursor ∧ cursor ≤ 1000000 := by simpa [isCur] using h2
  rw [h2] at hi
  have hml : (p.coms.map Com.row).length = p.coms.length := List.length_map ..
  have hmt : (p.tree.map Ent.row).length = p.tree.length := List.length_map ..
  have hrow : p.row = [.v (.bool false), entAV p.tree, comAV p.coms, .v (.int .i64 p.cur), .v (.bool p.more)] := by unfold Pag.row; rw [h3]
  rw [hrow]
  unfold followW
  by_cases h4 : p.tree = []
  · rw [if_neg (by simp [h4]), h4]
    by_cases h5 : 10 < p.coms.length
    · rw [if_pos h5]
      refine acall_intro Tryd.func26 rfl _ Tryd.ntmps26 (Nat.le_of_ble_eq_true rfl) _ Tryd.results26 0 rfl rfl ?_
      repeat' (first | refine walk ?_ | (first | (apply to_call Tryd.func28 rfl rfl; intro hIsFn; refine o_callp hIsFn (hc ..) ?_) | (apply to_call Tryd.func55 rfl rfl; intro hIsFn; refine o_callf hIsFn (hi ..) ?_; skip)) | ((first | (apply ops_split_t; rfl; rfl; exact nle rfl) | (apply ops_split_f; rfl; rfl; exact nle rfl) | (apply awp_cond; rfl)); all_goals (intro hc; have hp := hc; first | (simp at hp; done) | ((try simp at hp); first | (exfalso; omega) | skip))) | (apply awp_cond_any; rfl))
      all_goals try (exfalso; first | omega | contradiction)
      all_goals ((refine f_pure (rs := [.tmp 6, .tmp 7, .tmp 8]) ?_; (repeat' (first | exact rzl_nil | apply rzl_cons | exact rz_pure rfl | exact rz_ex | exact z_os | apply rz_agg | apply rz_tup | apply rz_clo | apply rz_int | apply rz_bool | apply rz_str | refine z_eq ?_ | apply rz_sl)); all_goals trace_state))
    · rw [if_neg h5]
      generalize hO : (if numsOk (cursor + 1) p.coms = false then (([], 0, 4) : List Ent × Int × Int) else if ¬ p.cur = cursor + p.coms.length then ([], 0, 4) else if ¬ (folR t p.coms).2 = 0 then ([], 0, (folR t p.coms).2) else ((folR t p.coms).1, p.cur, 0)) = O
      generalize hNN : numsOk (cursor + 1) p.coms = NN at hO
      generalize hFF : folR t p.coms = FF at hO
      refine acall_intro Tryd.func26 rfl _ Tryd.ntmps26 (Nat.le_of_ble_eq_true rfl) _ Tryd.results26 0 rfl rfl ?_
      (repeat apply awp_seq); apply awp_region; (repeat' (first | apply ops_free | refine o_mv ?_ | refine o_as ?_ | refine o_ld ?_ | refine o_fa ?_ | refine o_bi ?_ | refine o_pk ?_ | refine o_ln ?_ | refine o_ia ?_ | refine o_no ?_ | refine o_ex ?_ | refine o_bx ?_ | (first | fail) | refine r_nil ?_ | refine g_on_t ?_ | refine g_on_f ?_ | refine g_off_t ?_ | refine g_off_f ?_ | refine g_unw ?_ | refine g_yes ?_ | refine g_no_t ?_ | refine g_no_f ?_ | ((first | refine g_sp_t ?_ ?_ | refine g_sp_f ?_ ?_); all_goals (intro hc; have hp := hc; first | (simp at hp; done) | ((try simp at hp); first | (exfalso; omega) | skip))))); show Awp _ _ _ _ _
      (refine Awp.red (red_freeze 0 rfl ?_) ?_; (intro row hrow; obtain rfl := List.mem_singleton.1 hrow; rfl); refine Awp.red (red_fp 5 0 rfl rfl (Nat.le_of_ble_eq_true rfl)) ?_)
      repeat' (first | refine walk ?_ | (first | (apply to_call Tryd.func28 rfl rfl; intro hIsFn; refine o_callp hIsFn (hc ..) ?_) | (apply to_call Tryd.func55 rfl rfl; intro hIsFn; refine o_callf hIsFn (hi ..) ?_; skip)) | ((first | (apply ops_split_t; rfl; rfl; exact nle rfl) | (apply ops_split_f; rfl; rfl; exact nle rfl) | (apply awp_cond; rfl)); all_goals (intro hc; have hp := hc; first | (simp at hp; done) | ((try simp at hp); first | (exfalso; omega) | skip))) | (apply awp_cond_any; rfl))
      all_goals try (exfalso; first | omega | contradiction)
      (refine Awp.red (red_pure (ts := [(0, entAV t), (1, .v (.int .i64 (cursor + ((0 : Nat) : Int)))), (5, .fp [[.v (.bool false), entAV [], comAV p.coms, .v (.int .i64 p.cur), .v (.bool p.more)]] 0 0), (10, .v (.int .i64 ((0 : Nat) : Int)))]) ?_) ?_; ((repeat (first | exact tsok_nil | refine p_pure ?_ | refine p_eq ?_ ?_))))
      all_goals try (simp; done)
      refine awp_loop (fun n σ => ∃ i : Nat, i ≤ p.coms.length ∧ n = p.coms.length - i ∧ (NN = numsOk (cursor + 1 + i) (p.coms.drop i)) ∧ σ = ⟨[(0, entAV t), (1, .v (.int .i64 (cursor + (i : Int)))), (5, .fp [[.v (.bool false), entAV [], comAV p.coms, .v (.int .i64 p.cur), .v (.bool p.more)]] 0 0), (10, .v (.int .i64 (i : Int)))], [], C.nh⟩) p.coms.length ⟨0, Nat.zero_le _, rfl, (by rw [← hNN]; simp), rfl⟩ ?_
      rintro n σ ⟨i, hii, rfl, hni, rfl⟩
      by_cases hlt : i < p.coms.length
      · have hr := getRow (f := Com.row) hlt
        rw [numsOk_drop hlt] at hni
        by_cases hnum : p.coms[i].num = cursor + 1 + i
        · have hni2 : NN = numsOk (cursor + 1 + ((i + 1 : Nat) : Int)) (p.coms.drop (i + 1)) := by rw [hni, decide_eq_true hnum, Bool.true_and]; congr 1; omega
          clear hni hO hNN hFF
          repeat' (first | refine walk ?_ | fail | ((first | (apply ops_split_t; rfl; rfl; exact nle rfl) | (apply ops_split_f; rfl; rfl; exact nle rfl) | (apply awp_cond; rfl)); all_goals (intro hc; have hp := hc; first | (simp at hp; done) | ((try simp at hp); first | (exfalso; omega) | skip))) | (apply awp_cond_any; rfl))
          all_goals try (exfalso; first | omega | contradiction)
          refine ⟨p.coms.length - (i + 1), _, by omega, red_pure (ts := [(0, entAV t), (1, .v (.int .i64 (cursor + ((i + 1 : Nat) : Int)))), (5, .fp [[.v (.bool false), entAV [], comAV p.coms, .v (.int .i64 p.cur), .v (.bool p.more)]] 0 0), (10, .v (.int .i64 ((i + 1 : Nat) : Int)))]) ?_, i + 1, by omega, rfl, hni2, rfl⟩; ((repeat (first | exact tsok_nil | refine p_pure ?_ | refine p_eq ?_ ?_)); all_goals (apply av_int; omega))
        · rw [decide_eq_false hnum, Bool.false_and] at hni
          rw [if_pos hni] at hO
          subst hO
          clear hni hNN hFF
          repeat' (first | refine walk ?_ | fail | ((first | (apply ops_split_t; rfl; rfl; exact nle rfl) | (apply ops_split_f; rfl; rfl; exact nle rfl) | (apply awp_cond; rfl)); all_goals (intro hc; have hp := hc; first | (simp at hp; done) | ((try simp at hp); first | (exfalso; omega) | skip))) | (apply awp_cond_any; rfl))
          all_goals try (exfalso; first | omega | contradiction)
          all_goals ((refine f_pure (rs := [.tmp 6, .tmp 7, .tmp 8]) ?_; (repeat' (first | exact rzl_nil | apply rzl_cons | exact rz_pure rfl | exact rz_ex | exact z_os | apply rz_agg | apply rz_tup | apply rz_clo | apply rz_int | apply rz_bool | apply rz_str | refine z_eq ?_ | apply rz_sl)); all_goals trace_state))
      · obtain rfl : i = p.coms.length := by omega
        rw [List.drop_length] at hni
        have hni : NN = true := hni
        rw [if_neg (by simp [hni])] at hO
        by_cases h6 : p.cur = cursor + p.coms.length
        · rw [if_neg (by simp [h6])] at hO
          (repeat' (first | refine walk ?_ | (first | fail) | ((first | (apply ops_split_t; rfl; rfl; exact nle rfl) | (apply ops_split_f; rfl; rfl; exact nle rfl) | (apply awp_cond; rfl)); all_goals (intro hc; have hp := hc; first | (simp at hp; done) | ((try simp at hp); first | (exfalso; omega) | skip))) | (apply awp_cond_any; rfl)))
          (all_goals try (exfalso; first | omega | contradiction))
          (refine Awp.red (red_pure (ts := [(0, entAV t), (1, .v (.int .i64 (cursor + (p.coms.length : Int)))), (5, .fp [[.v (.bool false), entAV [], comAV p.coms, .v (.int .i64 p.cur), .v (.bool p.more)]] 0 0), (11, .v (.int .i64 ((0 : Nat) : Int)))]) ?_) ?_; ((repeat (first | exact tsok_nil | refine p_pure ?_ | refine p_eq ?_ ?_))))
          refine awp_loop (fun n σ => ∃ (i : Nat) (u : List Ent), i ≤ p.coms.length ∧ n = p.coms.length - i ∧ (FF = folR u (p.coms.drop i) ∧ Right u) ∧ σ = ⟨[(0, entAV u), (1, .v (.int .i64 (cursor + (p.coms.length : Int)))), (5, .fp [[.v (.bool false), entAV [], comAV p.coms, .v (.int .i64 p.cur), .v (.bool p.more)]] 0 0), (11, .v (.int .i64 (i : Int)))], [], C.nh⟩) p.coms.length ⟨0, t, Nat.zero_le _, rfl, ⟨hFF.symm, hR⟩, rfl⟩ ?_
          rintro n σ ⟨i, u, hi2, rfl, ⟨hFi, hRu⟩, rfl⟩
          by_cases hlt2 : i < p.coms.length
          · have hr := getRow (f := Com.row) hlt2
            have hall := a_allOf u p.coms[i].chs p.coms[i].num hRu.len (RightE.of (right_iff.2 hRu)) (hb.coms.each _ (List.getElem_mem _)).chs
            rw [← allT_eq2 hRu] at hall
            have hRn := @allT_right p.coms[i].num u p.coms[i].chs hRu
            rw [folR_drop hlt2] at hFi
            generalize allT p.coms[i].num u p.coms[i].chs = T at *
            obtain ⟨t2, n2, e2⟩ := T
            by_cases he : e2 = 0
            · subst he
              rw [if_neg (by simp)] at hFi
              have hRn := hRn rfl
              clear hO hNN hFF
              repeat' (first | refine walk ?_ | (first | (apply to_call Tryd.func51 rfl rfl; intro hIsFn; refine o_callp hIsFn (hall ..) ?_)) | ((first | (apply ops_split_t; rfl; rfl; exact nle rfl) | (apply ops_split_f; rfl; rfl; exact nle rfl) | (apply awp_cond; rfl)); all_goals (intro hc; have hp := hc; first | (simp at hp; done) | ((try simp at hp); first | (exfalso; omega) | skip))) | (apply awp_cond_any; rfl))
              all_goals try (exfalso; first | omega | contradiction)
              refine ⟨p.coms.length - (i + 1), _, by omega, red_pure (ts := [(0, entAV t2), (1, .v (.int .i64 (cursor + (p.coms.length : Int)))), (5, .fp [[.v (.bool false), entAV [], comAV p.coms, .v (.int .i64 p.cur), .v (.bool p.more)]] 0 0), (11, .v (.int .i64 ((i + 1 : Nat) : Int)))]) ?_, i + 1, t2, by omega, rfl, ⟨hFi, hRn⟩, rfl⟩
              (repeat (first | exact tsok_nil | refine p_pure ?_ | refine p_eq ?_ ?_))
            · rw [if_pos he] at hFi
              rw [hFi, if_pos he] at hO
              subst hO
              clear hNN hFF
              repeat' (first | refine walk ?_ | (first | (apply to_call Tryd.func51 rfl rfl; intro hIsFn; refine o_callp hIsFn (hall ..) ?_)) | ((first | (apply ops_split_t; rfl; rfl; exact nle rfl) | (apply ops_split_f; rfl; rfl; exact nle rfl) | (apply awp_cond; rfl)); all_goals (intro hc; have hp := hc; first | (simp at hp; done) | ((try simp at hp); first | (exfalso; omega) | skip))) | (apply awp_cond_any; rfl))
              all_goals try (exfalso; first | omega | contradiction)
              all_goals ((refine f_pure (rs := [.tmp 6, .tmp 7, .tmp 8]) ?_; (repeat' (first | exact rzl_nil | apply rzl_cons | exact rz_pure rfl | exact rz_ex | exact z_os | apply rz_agg | apply rz_tup | apply rz_clo | apply rz_int | apply rz_bool | apply rz_str | refine z_eq ?_ | apply rz_sl)); all_goals trace_state))
          · obtain rfl : i = p.coms.length := by omega
            rw [List.drop_length] at hFi
            rw [hFi, if_neg (by simp [folR]), h6] at hO
            subst hO
            clear hNN hFF
            repeat' (first | refine walk ?_ | fail | ((first | (apply ops_split_t; rfl; rfl; exact nle rfl) | (apply ops_split_f; rfl; rfl; exact nle rfl) | (apply awp_cond; rfl)); all_goals (intro hc; have hp := hc; first | (simp at hp; done) | ((try simp at hp); first | (exfalso; omega) | skip))) | (apply awp_cond_any; rfl))
            all_goals try (exfalso; first | omega | contradiction)
            all_goals ((refine f_pure (rs := [.tmp 6, .tmp 7, .tmp 8]) ?_; (repeat' (first | exact rzl_nil | apply rzl_cons | exact rz_pure rfl | exact rz_ex | exact z_os | apply rz_agg | apply rz_tup | apply rz_clo | apply rz_int | apply rz_bool | apply rz_str | refine z_eq ?_ | apply rz_sl)); all_goals trace_state))
        · rw [if_pos h6] at hO
          subst hO
          clear hNN hFF
          repeat' (first | refine walk ?_ | fail | ((first | (apply ops_split_t; rfl; rfl; exact nle rfl) | (apply ops_split_f; rfl; rfl; exact nle rfl) | (apply awp_cond; rfl)); all_goals (intro hc; have hp := hc; first | (simp at hp; done) | ((try simp at hp); first | (exfalso; omega) | skip))) | (apply awp_cond_any; rfl))
          all_goals try (exfalso; first | omega | contradiction)
          all_goals ((refine f_pure (rs := [.tmp 6, .tmp 7, .tmp 8]) ?_; (repeat' (first | exact rzl_nil | apply rzl_cons | exact rz_pure rfl | exact rz_ex | exact z_os | apply rz_agg | apply rz_tup | apply rz_clo | apply rz_int | apply rz_bool | apply rz_str | refine z_eq ?_ | apply rz_sl)); all_goals trace_state))
  · rw [if_pos h4]
    have h5 : ¬ p.tree.length = 0 := fun e => h4 (List.eq_nil_of_length_eq_zero e)
    refine acall_intro Tryd.func26 rfl _ Tryd.ntmps26 (Nat.le_of_ble_eq_true rfl) _ Tryd.results26 0 rfl rfl ?_
    repeat' (first | refine walk ?_ | (first | (apply to_call Tryd.func28 rfl rfl; intro hIsFn; refine o_callp hIsFn (hc ..) ?_) | (apply to_call Tryd.func55 rfl rfl; intro hIsFn; refine o_callf hIsFn (hi ..) ?_; skip)) | ((first | (apply ops_split_t; rfl; rfl; exact nle rfl) | (apply ops_split_f; rfl; rfl; exact nle rfl) | (apply awp_cond; rfl)); all_goals (intro hc; have hp := hc; first | (simp at hp; done) | ((try simp at hp); first | (exfalso; omega) | skip))) | (apply awp_cond_any; rfl))
    all_goals try (exfalso; first | omega | contradiction)
    all_goals ((refine f_pure (rs := [.tmp 6, .tmp 7, .tmp 8]) ?_; (repeat' (first | exact rzl_nil | apply rzl_cons | exact rz_pure rfl | exact rz_ex | exact z_os | apply rz_agg | apply rz_tup | apply rz_clo | apply rz_int | apply rz_bool | apply rz_str | refine z_eq ?_ | apply rz_sl)); all_goals trace_state))
theorem a_followOf (t : List Ent) (cursor : Int) (p : Pag) (hbt : EBig t) (hb : PBig p) : AFn C.P 26 [entAV t, .v (.int .i64 cursor), .agg p.row] (resF (followR t cursor p)) := by
  have hc := a_checkTreeR t hbt
  have hi := a_isCursorR cursor
  have hml : (p.coms.map Com.row).length = p.coms.length := List.length_map ..
  by_cases h1 : treeErr t = 0
  · have hR := right_iff.1 h1
    rw [h1] at hc
    cases h2 : isCur cursor with
    | true =>
      rw [h2] at hi
      cases h3 : p.reset with
      | false => rw [followR_eq h1 h2 h3]; exact a_followWR t cursor p hR h2 h3 hb
      | true =>
        have hE : followR t cursor p = if ¬ treeErr p.tree = 0 then ([], 0, treeErr p.tree) else if isCur p.cur = false then ([], 0, 3) else if ¬ p.coms = [] ∨ p.more = true then ([], 0, 1) else (p.tree, p.cur, 0) := by
          unfold followR; rw [if_neg (by simp [h1]), if_neg (by simp [h2]), if_pos h3]
        rw [hE]
        have hc2 := a_checkTreeR p.tree hb.tree
        have hi2 := a_isCursorR p.cur
        have hrow : p.row = [.v (.bool true), entAV p.tree, comAV p.coms, .v (.int .i64 p.cur), .v (.bool p.more)] := by unfold Pag.row; rw [h3]
        rw [hrow]
        clear hE hrow
        by_cases h4 : treeErr p.tree = 0
        · rw [h4] at hc2
          rw [if_neg (by simp [h4])]
          cases h5 : isCur p.cur with
          | false =>
            rw [h5] at hi2
            rw [if_pos rfl]
            refine acall_intro Tryd.func26 rfl _ Tryd.ntmps26 (Nat.le_of_ble_eq_true rfl) _ Tryd.results26 0 rfl rfl ?_
            (repeat' (first | refine walk ?_ | (first | (apply to_call Tryd.func28 rfl rfl; intro hIsFn; refine o_callp hIsFn (hc ..) ?_) | (apply to_call Tryd.func28 rfl rfl; intro hIsFn; refine o_callp hIsFn (hc2 ..) ?_) | (apply to_call Tryd.func55 rfl rfl; intro hIsFn; refine o_callf hIsFn (hi ..) ?_; skip) | (apply to_call Tryd.func55 rfl rfl; intro hIsFn; refine o_callf hIsFn (hi2 ..) ?_; skip)) | ((first | (apply ops_split_t; rfl; rfl; exact nle rfl) | (apply ops_split_f; rfl; rfl; exact nle rfl) | (apply awp_cond; rfl)); all_goals (intro hc; have hp := hc; first | (simp at hp; done) | ((try simp at hp); first | (exfalso; omega) | skip))) | (apply awp_cond_any; rfl)))
            (all_goals try (exfalso; first | omega | contradiction))
            (all_goals ((refine f_pure (rs := [.tmp 6, .tmp 7, .tmp 8]) ?_; (repeat' (first | exact rzl_nil | apply rzl_cons | exact rz_pure rfl | exact rz_ex | exact z_os | apply rz_agg | apply rz_tup | apply rz_clo | apply rz_int | apply rz_bool | apply rz_str | refine z_eq ?_ | apply rz_sl)); all_goals trace_state)))
          | true =>
            rw [h5] at hi2
            rw [if_neg (by decide)]
            by_cases h6 : p.coms.length = 0
            · have h6b := List.eq_nil_of_length_eq_zero h6
              cases h7 : p.more with
              | true =>
                rw [if_pos (.inr rfl)]
                refine acall_intro Tryd.func26 rfl _ Tryd.ntmps26 (Nat.le_of_ble_eq_true rfl) _ Tryd.results26 0 rfl rfl ?_
                (repeat' (first | refine walk ?_ | (first | (apply to_call Tryd.func28 rfl rfl; intro hIsFn; refine o_callp hIsFn (hc ..) ?_) | (apply to_call Tryd.func28 rfl rfl; intro hIsFn; refine o_callp hIsFn (hc2 ..) ?_) | (apply to_call Tryd.func55 rfl rfl; intro hIsFn; refine o_callf hIsFn (hi ..) ?_; skip) | (apply to_call Tryd.func55 rfl rfl; intro hIsFn; refine o_callf hIsFn (hi2 ..) ?_; skip)) | ((first | (apply ops_split_t; rfl; rfl; exact nle rfl) | (apply ops_split_f; rfl; rfl; exact nle rfl) | (apply awp_cond; rfl)); all_goals (intro hc; have hp := hc; first | (simp at hp; done) | ((try simp at hp); first | (exfalso; omega) | skip))) | (apply awp_cond_any; rfl)))
                (all_goals try (exfalso; first | omega | contradiction))
                (all_goals ((refine f_pure (rs := [.tmp 6, .tmp 7, .tmp 8]) ?_; (repeat' (first | exact rzl_nil | apply rzl_cons | exact rz_pure rfl | exact rz_ex | exact z_os | apply rz_agg | apply rz_tup | apply rz_clo | apply rz_int | apply rz_bool | apply rz_str | refine z_eq ?_ | apply rz_sl)); all_goals trace_state)))
              | false =>
                rw [if_neg (by simp [h6b])]
                refine acall_intro Tryd.func26 rfl _ Tryd.ntmps26 (Nat.le_of_ble_eq_true rfl) _ Tryd.results26 0 rfl rfl ?_
                (repeat' (first | refine walk ?_ | (first | (apply to_call Tryd.func28 rfl rfl; intro hIsFn; refine o_callp hIsFn (hc ..) ?_) | (apply to_call Tryd.func28 rfl rfl; intro hIsFn; refine o_callp hIsFn (hc2 ..) ?_) | (apply to_call Tryd.func55 rfl rfl; intro hIsFn; refine o_callf hIsFn (hi ..) ?_; skip) | (apply to_call Tryd.func55 rfl rfl; intro hIsFn; refine o_callf hIsFn (hi2 ..) ?_; skip)) | ((first | (apply ops_split_t; rfl; rfl; exact nle rfl) | (apply ops_split_f; rfl; rfl; exact nle rfl) | (apply awp_cond; rfl)); all_goals (intro hc; have hp := hc; first | (simp at hp; done) | ((try simp at hp); first | (exfalso; omega) | skip))) | (apply awp_cond_any; rfl)))
                (all_goals try (exfalso; first | omega | contradiction))
                (all_goals ((refine f_pure (rs := [.tmp 6, .tmp 7, .tmp 8]) ?_; (repeat' (first | exact rzl_nil | apply rzl_cons | exact rz_pure rfl | exact rz_ex | exact z_os | apply rz_agg | apply rz_tup | apply rz_clo | apply rz_int | apply rz_bool | apply rz_str | refine z_eq ?_ | apply rz_sl)); all_goals trace_state)))
            · have h6b : ¬ p.coms = [] := fun e => h6 (by rw [e]; rfl)
              rw [if_pos (.inl h6b)]
              refine acall_intro Tryd.func26 rfl _ Tryd.ntmps26 (Nat.le_of_ble_eq_true rfl) _ Tryd.results26 0 rfl rfl ?_
              (repeat' (first | refine walk ?_ | (first | (apply to_call Tryd.func28 rfl rfl; intro hIsFn; refine o_callp hIsFn (hc ..) ?_) | (apply to_call Tryd.func28 rfl rfl; intro hIsFn; refine o_callp hIsFn (hc2 ..) ?_) | (apply to_call Tryd.func55 rfl rfl; intro hIsFn; refine o_callf hIsFn (hi ..) ?_; skip) | (apply to_call Tryd.func55 rfl rfl; intro hIsFn; refine o_callf hIsFn (hi2 ..) ?_; skip)) | ((first | (apply ops_split_t; rfl; rfl; exact nle rfl) | (apply ops_split_f; rfl; rfl; exact nle rfl) | (apply awp_cond; rfl)); all_goals (intro hc; have hp := hc; first | (simp at hp; done) | ((try simp at hp); first | (exfalso; omega) | skip))) | (apply awp_cond_any; rfl)))
              (all_goals try (exfalso; first | omega | contradiction))
              (all_goals ((refine f_pure (rs := [.tmp 6, .tmp 7, .tmp 8]) ?_; (repeat' (first | exact rzl_nil | apply rzl_cons | exact rz_pure rfl | exact rz_ex | exact z_os | apply rz_agg | apply rz_tup | apply rz_clo | apply rz_int | apply rz_bool | apply rz_str | refine z_eq ?_ | apply rz_sl)); all_goals trace_state)))
        · rw [if_pos h4]
          generalize treeErr p.tree = E at *
          refine acall_intro Tryd.func26 rfl _ Tryd.ntmps26 (Nat.le_of_ble_eq_true rfl) _ Tryd.results26 0 rfl rfl ?_
          (repeat' (first | refine walk ?_ | (first | (apply to_call Tryd.func28 rfl rfl; intro hIsFn; refine o_callp hIsFn (hc ..) ?_) | (apply to_call Tryd.func28 rfl rfl; intro hIsFn; refine o_callp hIsFn (hc2 ..) ?_) | (apply to_call Tryd.func55 rfl rfl; intro hIsFn; refine o_callf hIsFn (hi ..) ?_; skip) | (apply to_call Tryd.func55 rfl rfl; intro hIsFn; refine o_callf hIsFn (hi2 ..) ?_; skip)) | ((first | (apply ops_split_t; rfl; rfl; exact nle rfl) | (apply ops_split_f; rfl; rfl; exact nle rfl) | (apply awp_cond; rfl)); all_goals (intro hc; have hp := hc; first | (simp at hp; done) | ((try simp at hp); first | (exfalso; omega) | skip))) | (apply awp_cond_any; rfl)))
          (all_goals try (exfalso; first | omega | contradiction))
          (all_goals ((refine f_pure (rs := [.tmp 6, .tmp 7, .tmp 8]) ?_; (repeat' (first | exact rzl_nil | apply rzl_cons | exact rz_pure rfl | exact rz_ex | exact z_os | apply rz_agg | apply rz_tup | apply rz_clo | apply rz_int | apply rz_bool | apply rz_str | refine z_eq ?_ | apply rz_sl)); all_goals trace_state)))
    | false =>
      rw [h2] at hi
      have hE : followR t cursor p = ([], 0, 3) := by unfold followR; rw [if_neg (by simp [h1]), if_pos h2]
      rw [hE]
      refine acall_intro Tryd.func26 rfl _ Tryd.ntmps26 (Nat.le_of_ble_eq_true rfl) _ Tryd.results26 0 rfl rfl ?_
      (repeat' (first | refine walk ?_ | (first | (apply to_call Tryd.func28 rfl rfl; intro hIsFn; refine o_callp hIsFn (hc ..) ?_) | (apply to_call Tryd.func28 rfl rfl; intro hIsFn; refine o_callp hIsFn (hc2 ..) ?_) | (apply to_call Tryd.func55 rfl rfl; intro hIsFn; refine o_callf hIsFn (hi ..) ?_; skip) | (apply to_call Tryd.func55 rfl rfl; intro hIsFn; refine o_callf hIsFn (hi2 ..) ?_; skip)) | ((first | (apply ops_split_t; rfl; rfl; exact nle rfl) | (apply ops_split_f; rfl; rfl; exact nle rfl) | (apply awp_cond; rfl)); all_goals (intro hc; have hp := hc; first | (simp at hp; done) | ((try simp at hp); first | (exfalso; omega) | skip))) | (apply awp_cond_any; rfl)))
      (all_goals try (exfalso; first | omega | contradiction))
      (all_goals ((refine f_pure (rs := [.tmp 6, .tmp 7, .tmp 8]) ?_; (repeat' (first | exact rzl_nil | apply rzl_cons | exact rz_pure rfl | exact rz_ex | exact z_os | apply rz_agg | apply rz_tup | apply rz_clo | apply rz_int | apply rz_bool | apply rz_str | refine z_eq ?_ | apply rz_sl)); all_goals trace_state)))
  · have hE : followR t cursor p = ([], 0, treeErr t) := by unfold followR; rw [if_pos h1]
    rw [hE]
    generalize treeErr t = E at *
    refine acall_intro Tryd.func26 rfl _ Tryd.ntmps26 (Nat.le_of_ble_eq_true rfl) _ Tryd.results26 0 rfl rfl ?_
    (repeat' (first | refine walk ?_ | (first | (apply to_call Tryd.func28 rfl rfl; intro hIsFn; refine o_callp hIsFn (hc ..) ?_) | (apply to_call Tryd.func28 rfl rfl; intro hIsFn; refine o_callp hIsFn (hc2 ..) ?_) | (apply to_call Tryd.func55 rfl rfl; intro hIsFn; refine o_callf hIsFn (hi ..) ?_; skip) | (apply to_call Tryd.func55 rfl rfl; intro hIsFn; refine o_callf hIsFn (hi2 ..) ?_; skip)) | ((first | (apply ops_split_t; rfl; rfl; exact nle rfl) | (apply ops_split_f; rfl; rfl; exact nle rfl) | (apply awp_cond; rfl)); all_goals (intro hc; have hp := hc; first | (simp at hp; done) | ((try simp at hp); first | (exfalso; omega) | skip))) | (apply awp_cond_any; rfl)))
    (all_goals try (exfalso; first | omega | contradiction))
    (all_goals ((refine f_pure (rs := [.tmp 6, .tmp 7, .tmp 8]) ?_; (repeat' (first | exact rzl_nil | apply rzl_cons | exact rz_pure rfl | exact rz_ex | exact z_os | apply rz_agg | apply rz_tup | apply rz_clo | apply rz_int | apply rz_bool | apply rz_str | refine z_eq ?_ | apply rz_sl)); all_goals trace_state)))
end Go.Proofs.YtkkfilkmkdnboaaDoor
