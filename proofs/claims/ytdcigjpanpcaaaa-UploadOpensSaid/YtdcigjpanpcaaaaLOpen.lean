/- The law UploadOpens, of abstract values. -/
import Derived.Test.YtdcigjpanpcaaaaUab14
set_option linter.unusedSimpArgs false
namespace Go.Proofs.Ytdcigjpanpcaaaa
open Go.Ab Go.RowKit
set_option maxRecDepth 10000
attribute [local irreducible] Awp Ops OpsX Wanted Red ExOk Go.Ab.Fin ACall Rz RzL RzRows Enters ResOk RenV RenVL ArgV ArgVL

theorem openAV_form (u : Upl) (who : Str) (size now : Int) : ∃ U n e, openAV u who size now = tupUp U n e ∧ U.sess.length ≤ 1000 := by
  unfold openAV
  split
  · rename_i h
    refine ⟨_, _, _, rfl, ?_⟩
    have hb : beginErr u now = 0 := by
      unfold openErr at h
      split at h
      · assumption
      · exact h
    have := sweptL_len u.sess now
    have := (uok hb).len
    simp [openU]; omega
  · exact ⟨_, _, _, rfl, by decide⟩

theorem law_opens (u : Upl) (hu : UBig u) (who : Str) (hw : who.length ≤ 140737488355328) (size now : Int) : AFn C.P 3 [uplAV u, .v (str who), .v (.int .i64 size), .v (.int .i64 now)] (.v (.bool true)) := by
  obtain ⟨U, n, e, hA, hl⟩ := openAV_form u who size now
  have h1 := a_openUp u hu who (by omega) size now
  have h2 := a_openUpR u hu who (by omega) size now
  rw [hA] at h1 h2
  have h3 := a_same U U (by omega) (by omega)
  simp only [decide_true] at h3
  refine acall_intro Try.func3 rfl _ Try.ntmps3 (Nat.le_of_ble_eq_true rfl) _ Try.results3 0 rfl rfl ?_
  repeat' (first | (first | (apply opsx_val; first | (apply ex_move; (conv => lhs; whnf); exact nle rfl) | (apply ex_assign; (conv => lhs; whnf); exact nle rfl) | (apply ex_pick_true; rfl; (conv => lhs; whnf); exact nle rfl) | (apply ex_pick_false; rfl; (conv => lhs; whnf); exact nle rfl) | (apply ex_icmp; rfl; rfl; rfl; exact nle rfl) | (apply ex_fieldAddr_own; rfl; rfl; rfl; rfl; exact nofun; exact nle rfl) | (apply ex_fieldAddr_fp; rfl; rfl; rfl; rfl; exact nofun; exact nle rfl) | (apply ex_load_own_row; rfl; rfl; rfl; (first | rfl | assumption | (apply getSet; assumption) | (apply getSet; apply getSet; assumption)); rfl; rfl; exact nle rfl) | (apply ex_load_fp_row; rfl; rfl; (first | rfl | assumption | (apply getSet; assumption) | (apply getSet; apply getSet; assumption)); rfl; rfl; exact nle rfl) | (apply ex_load_fz_row; rfl; rfl; rfl; rfl; rfl; rfl; exact nle rfl) | (apply ex_load_own; rfl; rfl; rfl; (first | rfl | assumption | (apply getSet; assumption) | (apply getSet; apply getSet; assumption)); (conv => lhs; whnf); exact nle rfl) | (apply ex_load_fp; rfl; rfl; (first | rfl | assumption | (apply getSet; assumption) | (apply getSet; apply getSet; assumption)); (conv => lhs; whnf); exact nle rfl) | (apply ex_scmp; rfl; rfl; rfl; exact nle rfl) | (apply ex_len_sl; rfl; rfl; rfl; exact nle rfl) | (apply ex_len_str; rfl; rfl; rfl; exact nle rfl) | (apply ex_len_own; rfl; rfl; rfl; exact nle rfl) | (apply ex_indexAddr_sl; rfl; rfl; rfl; rfl; rfl; (first | rfl | assumption | (apply getSet; assumption) | (apply getSet; apply getSet; assumption)); rfl; exact nle rfl) | (apply ex_index_str; rfl; rfl; rfl; rfl; (first | rfl | assumption | (apply getSet; assumption) | (apply getSet; apply getSet; assumption)); exact nle rfl) | (apply ex_succ; rfl; rfl; omega; exact nle rfl) | (apply ex_pred; rfl; rfl; omega; exact nle rfl) | (apply ex_add; rfl; rfl; omega; omega; exact nle rfl) | (apply ex_sub; rfl; rfl; omega; omega; exact nle rfl) | (apply ex_not; rfl; exact nle rfl) | (apply ex_extract; rfl; (conv => lhs; whnf); exact nle rfl) | (apply ex_field; rfl; rfl; rfl; rfl; (conv => lhs; whnf); exact nle rfl) | (apply ex_pick (b' := true); rfl; assumption; (conv => lhs; whnf); exact nle rfl) | (apply ex_pick (b' := false); rfl; assumption; (conv => lhs; whnf); exact nle rfl) | (apply ex_func; exact nle rfl) | (apply ex_nilCheck_op; rfl; exact nle rfl) | (apply ex_nilCheck_fp; rfl; exact nle rfl) | (apply ex_build; rfl; rfl; rfl; (conv => lhs; whnf); exact nle rfl) | (apply ex_load_fz; rfl; rfl; rfl; rfl; (conv => lhs; whnf); exact nle rfl) | (apply ex_sadd; rfl; rfl; (first | omega | (simp; done) | (simp only [List.length_cons, List.length_nil, List.length_map]; omega) | (simp; omega)); exact nle rfl)) | (apply opsx_new; first | (apply ex_alloc; rfl; exact nle rfl) | (apply ex_box; rfl; exact nle rfl)) | (apply opsx_store; apply ex_store; rfl; rfl; rfl; (first | rfl | assumption | (apply getSet; assumption) | (apply getSet; apply getSet; assumption)); rfl; rfl; exact nle rfl) | (first | (apply opsx_val; apply ex_callp []; exact isFn_of Try.func14 rfl rfl; apply h1; (case hz => (repeat' (first | exact argvl_nil | apply argvl_cons | exact argv_pure rfl | exact argv_ex | (apply argv_fz_op; rfl; exact List.mem_cons_self ..; exact nle rfl) | (apply argv_os; exact List.mem_cons_self ..) | apply argv_agg | apply argv_clo))); (case hr => rfl); (case hN => exact nle rfl)) | (apply opsx_val; apply ex_callp []; exact isFn_of Try.func15 rfl rfl; apply h2; (case hz => (repeat' (first | exact argvl_nil | apply argvl_cons | exact argv_pure rfl | exact argv_ex | (apply argv_fz_op; rfl; exact List.mem_cons_self ..; exact nle rfl) | (apply argv_os; exact List.mem_cons_self ..) | apply argv_agg | apply argv_clo))); (case hr => rfl); (case hN => exact nle rfl)) | (apply opsx_val; apply ex_callp []; exact isFn_of Try.func16 rfl rfl; apply a_begun; (case hz => (repeat' (first | exact argvl_nil | apply argvl_cons | exact argv_pure rfl | exact argv_ex | (apply argv_fz_op; rfl; exact List.mem_cons_self ..; exact nle rfl) | (apply argv_os; exact List.mem_cons_self ..) | apply argv_agg | apply argv_clo))); (case hr => rfl); (case hN => exact nle rfl)) | (apply opsx_val; apply ex_callp []; exact isFn_of Try.func17 rfl rfl; apply h3; (case hz => (repeat' (first | exact argvl_nil | apply argvl_cons | exact argv_pure rfl | exact argv_ex | (apply argv_fz_op; rfl; exact List.mem_cons_self ..; exact nle rfl) | (apply argv_os; exact List.mem_cons_self ..) | apply argv_agg | apply argv_clo))); (case hr => rfl); (case hN => exact nle rfl)))) | apply ops_free | (apply ops_nil; exact nle rfl; refine ⟨?_, ?_⟩; first | exact fun h => absurd h Bool.false_ne_true | (intro _; kernel_rfl)) | (apply ops_on_t; rfl; rfl; exact nle rfl) | (apply ops_on_f; rfl; rfl; exact nle rfl) | (apply ops_off_t; rfl; rfl; exact nle rfl) | (apply ops_off_f; rfl; rfl; exact nle rfl) | (apply ops_unwanted; rfl; rfl; exact nle rfl) | (apply ops_yes; rfl; rfl; assumption; exact nle rfl) | (apply ops_no_t; rfl; rfl; assumption; exact nle rfl) | (apply ops_no_f; rfl; rfl; assumption; exact nle rfl) | (apply ops_split_t; rfl; rfl; exact nle rfl; all_goals (intro hc; have hp := hc; first | (simp at hp; done) | ((try simp at hp); first | (exfalso; omega) | skip))) | (apply ops_split_f; rfl; rfl; exact nle rfl; all_goals (intro hc; have hp := hc; first | (simp at hp; done) | ((try simp at hp); first | (exfalso; omega) | skip))) | apply awp_seq | apply awp_region | (apply awp_cond_t; rfl) | (apply awp_cond_f; rfl) | (apply awp_cond_y; rfl; assumption) | (apply awp_cond_n; rfl; assumption) | (apply awp_cond; rfl; all_goals (intro hc; have hp := hc; first | (simp at hp; done) | ((try simp at hp); first | (exfalso; omega) | skip))) | (apply awp_cond_any; rfl) | apply awp_block | apply awp_skip | apply awp_exit | apply awp_ret)
  all_goals try (exfalso; simp_all; done)
  all_goals (apply fin_bool; rfl; simp; done)

theorem law_opens_all (ys : List AV) (h : TyAll C.tab [24, 9, 3, 3] ys) : AFn C.P 3 ys (.v (.bool true)) := by
  obtain ⟨_, _, rfl, h0, _, _, rfl, h1, _, _, rfl, h2, _, _, rfl, h3, rfl⟩ := h
  obtain ⟨u, rfl, hu⟩ := ty_upl h0
  obtain ⟨who, rfl, hw⟩ := ty_str h1
  obtain ⟨size, rfl, _⟩ := ty_int h2
  obtain ⟨now, rfl, _⟩ := ty_int h3
  exact law_opens u hu who hw size now
end Go.Proofs.Ytdcigjpanpcaaaa
