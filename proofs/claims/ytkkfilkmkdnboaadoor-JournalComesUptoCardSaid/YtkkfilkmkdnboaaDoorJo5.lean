/- Journals in the abstract layer, 5: Read. -/
import Derived.Test.YtkkfilkmkdnboaaDoorJo3
set_option linter.unusedSimpArgs false
set_option linter.unnecessarySimpa false
set_option linter.unusedVariables false
set_option maxHeartbeats 1000000
namespace Go.Proofs.YtkkfilkmkdnboaaDoor
open Go.Ab Go.RowKit
set_option maxRecDepth 10000
attribute [local irreducible] Awp Ops OpsX Wanted Red ExOk Go.Ab.Fin ACall Rz RzL RzRows Enters ResOk RenV RenVL ArgV ArgVL

def resPg (r : Pag × Int) : AV := .tup [.agg r.1.row, .v (.int .i64 r.2)]
theorem rows_part {α : Type} {f : α → List AV} {l : List α} {k m : Nat} : (((((l.map f).take (l.map f).length).drop k).take m).drop 0) = ((l.drop k).take m).map f := by
  rw [List.take_length]; simp
theorem a_read (j : Jou) (cursor most : Int) (hb : JBig j) : AFn C.P 18 [.agg j.row, .v (.int .i64 cursor), .v (.int .i64 most)] (resPg (readR j cursor most)) := by
  have ho := a_open j hb
  have hmj : (j.coms.map Com.row).length = j.coms.length := List.length_map ..
  by_cases hz : jouE j = 0
  · rw [open_ok hz] at ho
    have hJ := jright_iff.1 hz
    have hlen := hJ.len
    have hlo := hJ.lo
    have hhi := hJ.hi
    have hN := hJ.now
    have hlast := a_jlast j (nowT j) hJ
    have hce := a_cloneEF (nowT j) (by have := hN.len; omega)
    have hE : readR j cursor most = readW j cursor most := by unfold readR; rw [if_neg (by simp [hz])]
    have hL : lastN j = j.first + j.coms.length - 1 := rfl
    have hfew := comsR_few hJ.base hJ.run
    have hrk : ∀ row, row ∈ j.coms.map Com.row → row.length = 3 := fun row hr => by obtain ⟨x, _, rfl⟩ := List.mem_map.1 hr; rfl
    rw [hE]
    unfold readW
    clear hE hz
    generalize nowT j = U at *
    generalize lastN j = LN at *
    by_cases h1 : most < 1 ∨ 10 < most ∨ cursor < 0
    · rw [if_pos h1]
      refine acall_intro Tryd.func18 rfl _ Tryd.ntmps18 (Nat.le_of_ble_eq_true rfl) _ Tryd.results18 0 rfl rfl ?_
      (repeat apply awp_seq); apply awp_region; (repeat' (first | apply ops_free | refine o_mv ?_ | refine o_as ?_ | refine o_ld ?_ | refine o_fa ?_ | refine o_bi ?_ | refine o_pk ?_ | refine o_ln ?_ | refine o_ex ?_ | refine o_nc ?_ | refine o_bu ?_ | refine o_al ?_ | refine o_bx ?_ | refine o_sto ?_ | (first | fail) | refine r_nil ?_ | refine g_on_t ?_ | refine g_on_f ?_ | refine g_off_t ?_ | refine g_off_f ?_ | refine g_unw ?_ | refine g_yes ?_ | refine g_no_t ?_ | refine g_no_f ?_ | ((first | refine g_sp_t ?_ ?_ | refine g_sp_f ?_ ?_); all_goals (intro hc; have hp := hc; first | (simp at hp; done) | ((try simp at hp); first | (exfalso; omega) | skip))))); show Awp _ _ _ _ _
      (refine Awp.red (red_freeze 0 rfl ?_) ?_; (intro row hrow; obtain rfl := List.mem_singleton.1 hrow; rfl); refine Awp.red (red_fp 3 0 rfl rfl (Nat.le_of_ble_eq_true rfl)) ?_)
      repeat' (first | refine walk ?_ | (first | (apply to_call Tryd.func41 rfl rfl; intro hIsFn; refine o_callp hIsFn (ho ..) ?_) | (apply to_call Tryd.func47 rfl rfl; intro hIsFn; refine o_callf hIsFn (hlast ..) ?_; skip) | (apply to_call Tryd.func43 rfl rfl; intro hIsFn; refine o_callp hIsFn (hce ..) ?_) | fail) | ((first | (apply ops_split_t; rfl; rfl; exact nle rfl) | (apply ops_split_f; rfl; rfl; exact nle rfl) | (apply awp_cond; rfl)); all_goals (intro hc; have hp := hc; first | (simp at hp; done) | ((try simp at hp); first | (exfalso; omega) | skip))) | (apply awp_cond_any; rfl))
      (all_goals try (exfalso; first | omega | contradiction))
      all_goals ((refine f_pure (rs := [.cell 6 35, .tmp 7]) ?_; (repeat' (first | exact rzl_nil | apply rzl_cons | exact rz_pure rfl | exact rz_ex | exact z_os | apply rz_agg | apply rz_tup | apply rz_clo | apply rz_int | apply rz_bool | apply rz_str | refine z_eq ?_ | apply rz_sl)); all_goals trace_state))
    · rw [if_neg h1]
      by_cases h2 : LN < cursor
      · rw [if_pos h2]
        refine acall_intro Tryd.func18 rfl _ Tryd.ntmps18 (Nat.le_of_ble_eq_true rfl) _ Tryd.results18 0 rfl rfl ?_
        (repeat apply awp_seq); apply awp_region; (repeat' (first | apply ops_free | refine o_mv ?_ | refine o_as ?_ | refine o_ld ?_ | refine o_fa ?_ | refine o_bi ?_ | refine o_pk ?_ | refine o_ln ?_ | refine o_ex ?_ | refine o_nc ?_ | refine o_bu ?_ | refine o_al ?_ | refine o_bx ?_ | refine o_sto ?_ | (first | fail) | refine r_nil ?_ | refine g_on_t ?_ | refine g_on_f ?_ | refine g_off_t ?_ | refine g_off_f ?_ | refine g_unw ?_ | refine g_yes ?_ | refine g_no_t ?_ | refine g_no_f ?_ | ((first | refine g_sp_t ?_ ?_ | refine g_sp_f ?_ ?_); all_goals (intro hc; have hp := hc; first | (simp at hp; done) | ((try simp at hp); first | (exfalso; omega) | skip))))); show Awp _ _ _ _ _
        (refine Awp.red (red_freeze 0 rfl ?_) ?_; (intro row hrow; obtain rfl := List.mem_singleton.1 hrow; rfl); refine Awp.red (red_fp 3 0 rfl rfl (Nat.le_of_ble_eq_true rfl)) ?_)
        repeat' (first | refine walk ?_ | (first | (apply to_call Tryd.func41 rfl rfl; intro hIsFn; refine o_callp hIsFn (ho ..) ?_) | (apply to_call Tryd.func47 rfl rfl; intro hIsFn; refine o_callf hIsFn (hlast ..) ?_; skip) | (apply to_call Tryd.func43 rfl rfl; intro hIsFn; refine o_callp hIsFn (hce ..) ?_) | fail) | ((first | (apply ops_split_t; rfl; rfl; exact nle rfl) | (apply ops_split_f; rfl; rfl; exact nle rfl) | (apply awp_cond; rfl)); all_goals (intro hc; have hp := hc; first | (simp at hp; done) | ((try simp at hp); first | (exfalso; omega) | skip))) | (apply awp_cond_any; rfl))
        (all_goals try (exfalso; first | omega | contradiction))
        all_goals ((refine f_pure (rs := [.cell 6 35, .tmp 7]) ?_; (repeat' (first | exact rzl_nil | apply rzl_cons | exact rz_pure rfl | exact rz_ex | exact z_os | apply rz_agg | apply rz_tup | apply rz_clo | apply rz_int | apply rz_bool | apply rz_str | refine z_eq ?_ | apply rz_sl)); all_goals trace_state))
      · rw [if_neg h2]
        by_cases h3 : cursor < j.first - 1
        · rw [if_pos h3]
          refine acall_intro Tryd.func18 rfl _ Tryd.ntmps18 (Nat.le_of_ble_eq_true rfl) _ Tryd.results18 0 rfl rfl ?_
          (repeat apply awp_seq); apply awp_region; (repeat' (first | apply ops_free | refine o_mv ?_ | refine o_as ?_ | refine o_ld ?_ | refine o_fa ?_ | refine o_bi ?_ | refine o_pk ?_ | refine o_ln ?_ | refine o_ex ?_ | refine o_nc ?_ | refine o_bu ?_ | refine o_al ?_ | refine o_bx ?_ | refine o_sto ?_ | (first | fail) | refine r_nil ?_ | refine g_on_t ?_ | refine g_on_f ?_ | refine g_off_t ?_ | refine g_off_f ?_ | refine g_unw ?_ | refine g_yes ?_ | refine g_no_t ?_ | refine g_no_f ?_ | ((first | refine g_sp_t ?_ ?_ | refine g_sp_f ?_ ?_); all_goals (intro hc; have hp := hc; first | (simp at hp; done) | ((try simp at hp); first | (exfalso; omega) | skip))))); show Awp _ _ _ _ _
          (refine Awp.red (red_freeze 0 rfl ?_) ?_; (intro row hrow; obtain rfl := List.mem_singleton.1 hrow; rfl); refine Awp.red (red_fp 3 0 rfl rfl (Nat.le_of_ble_eq_true rfl)) ?_)
          repeat' (first | refine walk ?_ | (first | (apply to_call Tryd.func41 rfl rfl; intro hIsFn; refine o_callp hIsFn (ho ..) ?_) | (apply to_call Tryd.func47 rfl rfl; intro hIsFn; refine o_callf hIsFn (hlast ..) ?_; skip) | (apply to_call Tryd.func43 rfl rfl; intro hIsFn; refine o_callp hIsFn (hce ..) ?_) | fail) | ((first | (apply ops_split_t; rfl; rfl; exact nle rfl) | (apply ops_split_f; rfl; rfl; exact nle rfl) | (apply awp_cond; rfl)); all_goals (intro hc; have hp := hc; first | (simp at hp; done) | ((try simp at hp); first | (exfalso; omega) | skip))) | (apply awp_cond_any; rfl))
          (all_goals try (exfalso; first | omega | contradiction))
          all_goals ((refine f_pure (rs := [.cell 6 35, .tmp 7]) ?_; (repeat' (first | exact rzl_nil | apply rzl_cons | exact rz_pure rfl | exact rz_ex | exact z_os | apply rz_agg | apply rz_tup | apply rz_clo | apply rz_int | apply rz_bool | apply rz_str | refine z_eq ?_ | apply rz_sl)); all_goals trace_state))
        · rw [if_neg h3]
          have hP : partC j cursor most = (j.coms.drop (cursor - j.first + 1).toNat).take most.toNat := rfl
          generalize partC j cursor most = X at *
          obtain ⟨k, hk⟩ : ∃ k : Nat, k = (cursor - j.first + 1).toNat := ⟨_, rfl⟩
          obtain ⟨m, hm⟩ : ∃ m : Nat, m = min (j.coms.length - k) most.toNat := ⟨_, rfl⟩
          have hX : X = (j.coms.drop k).take m := by rw [hP, ← hk, hm, List.take_eq_take_min]; simp [Nat.min_comm]
          clear hP
          have hxl : X.length = m := by rw [hX]; simp; omega
          have hcl : ACall C.P 44 [.sl false (((((j.coms.map Com.row).take (j.coms.map Com.row).length).drop k).take m).drop 0)] [] (.os 0 0 X.length) [.own false 3 (X.map Com.row)] := by
            rw [rows_part, ← hX]
            exact a_cloned X (by omega) (fun c hc => by have := hfew c (by rw [hX] at hc; exact List.mem_of_mem_drop (List.mem_of_mem_take hc)); omega)
          have hdl : (((j.coms.map Com.row).take (j.coms.map Com.row).length).drop k).length = j.coms.length - k := by simp
          refine acall_intro Tryd.func18 rfl _ Tryd.ntmps18 (Nat.le_of_ble_eq_true rfl) _ Tryd.results18 0 rfl rfl ?_
          (repeat apply awp_seq); apply awp_region; (repeat' (first | apply ops_free | refine o_mv ?_ | refine o_as ?_ | refine o_ld ?_ | refine o_fa ?_ | refine o_bi ?_ | refine o_pk ?_ | refine o_ln ?_ | refine o_ex ?_ | refine o_nc ?_ | refine o_bu ?_ | refine o_al ?_ | refine o_bx ?_ | refine o_sto ?_ | (first | fail) | refine r_nil ?_ | refine g_on_t ?_ | refine g_on_f ?_ | refine g_off_t ?_ | refine g_off_f ?_ | refine g_unw ?_ | refine g_yes ?_ | refine g_no_t ?_ | refine g_no_f ?_ | ((first | refine g_sp_t ?_ ?_ | refine g_sp_f ?_ ?_); all_goals (intro hc; have hp := hc; first | (simp at hp; done) | ((try simp at hp); first | (exfalso; omega) | skip))))); show Awp _ _ _ _ _
          (refine Awp.red (red_freeze 0 rfl ?_) ?_; (intro row hrow; obtain rfl := List.mem_singleton.1 hrow; rfl); refine Awp.red (red_fp 3 0 rfl rfl (Nat.le_of_ble_eq_true rfl)) ?_)
          repeat' (first | refine walk ?_ | (first | (apply to_call Tryd.func41 rfl rfl; intro hIsFn; refine o_callp hIsFn (ho ..) ?_) | (apply to_call Tryd.func47 rfl rfl; intro hIsFn; refine o_callf hIsFn (hlast ..) ?_; skip) | (apply to_call Tryd.func43 rfl rfl; intro hIsFn; refine o_callp hIsFn (hce ..) ?_) | (apply opsx_val; apply ex_min; (case hx => rfl); (case hy => rfl); (case hN => exact nle rfl)) | (apply opsx_val; apply ex_slice_sl (ex' := false) (a := k) (b := (j.coms.map Com.row).length) (m := 0); (case hx => rfl); (case hT => rfl); (case he => rfl); (case hE => rfl); (case ha => exact ⟨_, av_int (by omega)⟩); (case hb => rfl); (case hm => trivial); (case hab => (rw [hmj]; omega)); (case hbl => exact Nat.le_refl _); (case hrk => exact hrk); (case hex => exact nofun); (case hN => exact nle rfl)) | (apply opsx_val; apply ex_slice_sl (ex' := false) (a := 0) (b := m) (m := 0); (case hx => rfl); (case hT => rfl); (case he => rfl); (case hE => rfl); (case ha => rfl); (case hb => exact ⟨_, av_int (by rw [hdl]; omega)⟩); (case hm => trivial); (case hab => exact Nat.zero_le _); (case hbl => (rw [hdl]; omega)); (case hrk => (intro row hr; exact hrk row (List.mem_of_mem_take (List.mem_of_mem_drop hr)))); (case hex => exact nofun); (case hN => exact nle rfl)) | (apply to_call Tryd.func44 rfl rfl; intro hIsFn; refine o_callo ([]) hIsFn (hcl ..) ?_)) | ((first | (apply ops_split_t; rfl; rfl; exact nle rfl) | (apply ops_split_f; rfl; rfl; exact nle rfl) | (apply awp_cond; rfl)); all_goals (intro hc; have hp := hc; first | (simp at hp; done) | ((try simp at hp); first | (exfalso; omega) | skip))) | (apply awp_cond_any; rfl))
          (all_goals try (exfalso; first | omega | contradiction))
          all_goals ((refine f_pure (rs := [.cell 6 35, .tmp 7]) ?_; (repeat' (first | exact rzl_nil | apply rzl_cons | exact rz_pure rfl | exact rz_ex | exact z_os | apply rz_agg | apply rz_tup | apply rz_clo | apply rz_int | apply rz_bool | apply rz_str | refine z_eq ?_ | apply rz_sl)); all_goals trace_state))
  · rw [open_bad hz] at ho
    unfold readR
    rw [if_pos hz]
    generalize jouE j = E at *
    refine acall_intro Tryd.func18 rfl _ Tryd.ntmps18 (Nat.le_of_ble_eq_true rfl) _ Tryd.results18 0 rfl rfl ?_
    repeat' (first | refine walk ?_ | (first | (apply to_call Tryd.func41 rfl rfl; intro hIsFn; refine o_callp hIsFn (ho ..) ?_)) | ((first | (apply ops_split_t; rfl; rfl; exact nle rfl) | (apply ops_split_f; rfl; rfl; exact nle rfl) | (apply awp_cond; rfl)); all_goals (intro hc; have hp := hc; first | (simp at hp; done) | ((try simp at hp); first | (exfalso; omega) | skip))) | (apply awp_cond_any; rfl))
    all_goals try (exfalso; omega)
    all_goals ((refine f_pure (rs := [.cell 6 35, .tmp 7]) ?_; (repeat' (first | exact rzl_nil | apply rzl_cons | exact rz_pure rfl | exact rz_ex | exact z_os | apply rz_agg | apply rz_tup | apply rz_clo | apply rz_int | apply rz_bool | apply rz_str | refine z_eq ?_ | apply rz_sl)); all_goals trace_state))
end Go.Proofs.YtkkfilkmkdnboaaDoor
