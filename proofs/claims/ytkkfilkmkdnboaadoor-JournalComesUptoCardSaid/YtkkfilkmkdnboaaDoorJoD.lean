/- Journals in the abstract layer, 13: laws JournalResets, JournalComes. -/
import Derived.Test.YtkkfilkmkdnboaaDoorJoB
import Derived.Test.YtkkfilkmkdnboaaDoorJoC
import Derived.Test.YtkkfilkmkdnboaaDoorCh
set_option linter.unusedSimpArgs false
set_option linter.unnecessarySimpa false
set_option linter.unusedVariables false
set_option maxHeartbeats 1000000
namespace Go.Proofs.YtkkfilkmkdnboaaDoor
open Go.Ab Go.RowKit
set_option maxRecDepth 10000
attribute [local irreducible] Awp Ops OpsX Wanted Red ExOk Go.Ab.Fin ACall Rz RzL RzRows Enters ResOk RenV RenVL ArgV ArgVL

theorem chooseN_lt (c : Int) {n : Nat} (h : 0 < n) : chooseN c n < n := Nat.mod_lt _ h
theorem law_jresets (j : Jou) (cursor : Int) (t : List Ent) (hb : JBig j) (hbt : EBig t) (hc0 : -9223372036854775808 ≤ cursor ∧ cursor ≤ 9223372036854775807) : AFn C.P 8 [.agg j.row, .v (.int .i64 cursor), entAV t] (.v (.bool true)) := by
  have h1 := a_jtree j hb
  have hmj : (j.coms.map Com.row).length = j.coms.length := List.length_map ..
  by_cases hz : jouE j = 0
  · have hJ := jright_iff.1 hz
    have hT : treeJ j = (nowT j, 0) := if_pos hz
    rw [hT] at h1
    have hlo := hJ.lo
    have hhi := hJ.hi
    have hlen := hJ.len
    by_cases hf : j.first < 2
    · generalize nowT j = U at *
      refine acall_intro Tryd.func8 rfl _ Tryd.ntmps8 (Nat.le_of_ble_eq_true rfl) _ Tryd.results8 0 rfl rfl ?_
      repeat' (first | refine walk ?_ | (first | (apply to_call Tryd.func22 rfl rfl; intro hIsFn; refine o_callp hIsFn (h1 ..) ?_) | (apply to_call Tryd.func16 rfl rfl; intro hIsFn; refine o_callf hIsFn (a_jbegun ..) ?_; skip)) | ((first | (apply ops_split_t; rfl; rfl; exact nle rfl) | (apply ops_split_f; rfl; rfl; exact nle rfl) | (apply awp_cond; rfl)); all_goals (intro hc; have hp := hc; first | (simp at hp; done) | ((try simp at hp); first | (exfalso; omega) | skip))) | (apply awp_cond_any; rfl))
      all_goals try (exfalso; first | omega | contradiction)
      all_goals (apply fin_bool; rfl; rfl)
    · have hn0 : 0 < (j.first - 1).toNat := by omega
      have hch := a_choose cursor (j.first - 1).toNat hn0 hc0
      have hkl := chooseN_lt cursor hn0
      rw [show (((j.first - 1).toNat : Nat) : Int) = j.first - 1 by omega] at hch
      generalize chooseN cursor (j.first - 1).toNat = k at *
      obtain ⟨hr, hfo⟩ := resets hJ (k := k) (by omega) (by omega) t
      have h2 := a_read j k 3 hb
      have hbp := read_big (cursor := k) (most := 3) hb
      rw [hr] at h2 hbp
      have h3 := a_follow t 0 _ hbt hbp
      rw [hfo] at h3
      have h4 := a_checkTreeR t hbt
      have hl := hJ.now.len
      have h5 := a_sameEntries (nowT j) (nowT j) (by omega) (by omega)
      rw [decide_eq_true rfl] at h5
      have hL : lastN j = j.first + ((j.coms.map Com.row).length : Int) - 1 := by rw [hmj]; rfl
      clear hr hfo hbp
      generalize nowT j = U at *
      by_cases ht : treeErr t = 0
      · rw [if_pos ht] at h3
        generalize lastN j = LN at *
        subst hL
        refine acall_intro Tryd.func8 rfl _ Tryd.ntmps8 (Nat.le_of_ble_eq_true rfl) _ Tryd.results8 0 rfl rfl ?_
        repeat' (first | refine walk ?_ | (first | (apply to_call Tryd.func22 rfl rfl; intro hIsFn; refine o_callp hIsFn (h1 ..) ?_) | (apply to_call Tryd.func16 rfl rfl; intro hIsFn; refine o_callf hIsFn (a_jbegun ..) ?_; skip) | (apply to_call Tryd.func27 rfl rfl; intro hIsFn; refine o_callf hIsFn (hch ..) ?_; skip) | (apply to_call Tryd.func18 rfl rfl; intro hIsFn; refine o_callp hIsFn (h2 ..) ?_) | (apply to_call Tryd.func25 rfl rfl; intro hIsFn; refine o_callp hIsFn (h3 ..) ?_) | (apply to_call Tryd.func29 rfl rfl; intro hIsFn; refine o_callf hIsFn (h5 ..) ?_; skip)) | ((first | (apply ops_split_t; rfl; rfl; exact nle rfl) | (apply ops_split_f; rfl; rfl; exact nle rfl) | (apply awp_cond; rfl)); all_goals (intro hc; have hp := hc; first | (simp at hp; done) | ((try simp at hp); first | (exfalso; omega) | skip))) | (apply awp_cond_any; rfl))
        all_goals try (exfalso; first | omega | contradiction | (simp_all; done))
        all_goals (apply fin_bool; rfl; first | rfl | (simp; done) | (simp_all; done))
      · rw [if_neg ht] at h3
        generalize lastN j = LN at *
        generalize treeErr t = E at *
        subst hL
        refine acall_intro Tryd.func8 rfl _ Tryd.ntmps8 (Nat.le_of_ble_eq_true rfl) _ Tryd.results8 0 rfl rfl ?_
        repeat' (first | refine walk ?_ | (first | (apply to_call Tryd.func22 rfl rfl; intro hIsFn; refine o_callp hIsFn (h1 ..) ?_) | (apply to_call Tryd.func16 rfl rfl; intro hIsFn; refine o_callf hIsFn (a_jbegun ..) ?_; skip) | (apply to_call Tryd.func27 rfl rfl; intro hIsFn; refine o_callf hIsFn (hch ..) ?_; skip) | (apply to_call Tryd.func18 rfl rfl; intro hIsFn; refine o_callp hIsFn (h2 ..) ?_) | (apply to_call Tryd.func25 rfl rfl; intro hIsFn; refine o_callp hIsFn (h3 ..) ?_) | (apply to_call Tryd.func28 rfl rfl; intro hIsFn; refine o_callf hIsFn (h4 ..) ?_; skip)) | ((first | (apply ops_split_t; rfl; rfl; exact nle rfl) | (apply ops_split_f; rfl; rfl; exact nle rfl) | (apply awp_cond; rfl)); all_goals (intro hc; have hp := hc; first | (simp at hp; done) | ((try simp at hp); first | (exfalso; omega) | skip))) | (apply awp_cond_any; rfl))
        all_goals try (exfalso; first | omega | contradiction | (simp_all; done))
        all_goals (apply fin_bool; rfl; first | rfl | (simp; done) | (simp_all; done))
  · have hT : treeJ j = ([], jouE j) := if_neg hz
    rw [hT] at h1
    generalize jouE j = E at *
    refine acall_intro Tryd.func8 rfl _ Tryd.ntmps8 (Nat.le_of_ble_eq_true rfl) _ Tryd.results8 0 rfl rfl ?_
    repeat' (first | refine walk ?_ | (first | (apply to_call Tryd.func22 rfl rfl; intro hIsFn; refine o_callp hIsFn (h1 ..) ?_) | (apply to_call Tryd.func16 rfl rfl; intro hIsFn; refine o_callf hIsFn (a_jbegun ..) ?_; skip)) | ((first | (apply ops_split_t; rfl; rfl; exact nle rfl) | (apply ops_split_f; rfl; rfl; exact nle rfl) | (apply awp_cond; rfl)); all_goals (intro hc; have hp := hc; first | (simp at hp; done) | ((try simp at hp); first | (exfalso; omega) | skip))) | (apply awp_cond_any; rfl))
    all_goals try (exfalso; first | omega | contradiction)
    all_goals (apply fin_bool; rfl; rfl)
theorem law_jcomes (j : Jou) (from0 most0 : Int) (hb : JBig j) (hf0 : -9223372036854775808 ≤ from0 ∧ from0 ≤ 9223372036854775807) (hm0 : -9223372036854775808 ≤ most0 ∧ most0 ≤ 9223372036854775807) : AFn C.P 9 [.agg j.row, .v (.int .i64 from0), .v (.int .i64 most0)] (.v (.bool true)) := by
  have h1 := a_openR j hb
  have hmj : (j.coms.map Com.row).length = j.coms.length := List.length_map ..
  by_cases hz : jouE j = 0
  · have hJ := jright_iff.1 hz
    have hlo := hJ.lo
    have hhi := hJ.hi
    have hlen := hJ.len
    have hT : openT j = (j.base :: comsT j.base j.coms, 0) := if_pos hz
    have hcl := comsT_len j.coms j.base
    have htl : ((j.base :: comsT j.base j.coms).map treeRow).length = j.coms.length + 1 := by simp [hcl]
    have hta := comsT_at hJ.run
    have h1 : AFn C.P 30 [.agg j.row] (.tup [.sl false ((j.base :: comsT j.base j.coms).map treeRow), .v (.int .i64 0)]) := by rw [hT] at h1; exact h1
    have hch := a_choose from0 (j.coms.length + 1) (by omega) hf0
    have hat := chooseN_lt from0 (n := j.coms.length + 1) (by omega)
    have hch2 := a_choose most0 10 (by omega) hm0
    have hmt := chooseN_lt most0 (n := 10) (by omega)
    generalize chooseN from0 (j.coms.length + 1) = a0 at *
    generalize chooseN most0 10 = m0 at *
    have hr0 : ((j.base :: comsT j.base j.coms).map treeRow)[a0]? = some [entAV (treeAt j a0)] := by
      rw [List.getElem?_map, hta a0 (by omega)]; rfl
    have hcc : ((((j.base :: comsT j.base j.coms).map treeRow).length : Nat) : Int) = ((j.coms.length + 1 : Nat) : Int) := by rw [htl]
    rw [← hcc] at hch
    generalize (j.base :: comsT j.base j.coms).map treeRow = TR at *
    have hpg := fun a ha => @page_comes j hJ a (1 + m0) ha (by omega) (by omega)
    have htj := a_jtree j hb
    rw [show treeJ j = (nowT j, 0) from if_pos hz] at htj
    clear hT hta hcl
    refine acall_intro Tryd.func9 rfl _ Tryd.ntmps9 (Nat.le_of_ble_eq_true rfl) _ Tryd.results9 0 rfl rfl ?_
    (repeat apply awp_seq); apply awp_region; (repeat' (first | apply ops_free | refine o_mv ?_ | refine o_as ?_ | refine o_ld ?_ | refine o_fa ?_ | refine o_bi ?_ | refine o_pk ?_ | refine o_ln ?_ | refine o_ia ?_ | refine o_no ?_ | refine o_ex ?_ | refine o_al ?_ | refine o_bx ?_ | refine o_sto ?_ | (first | fail) | refine r_nil ?_ | refine g_on_t ?_ | refine g_on_f ?_ | refine g_off_t ?_ | refine g_off_f ?_ | refine g_unw ?_ | refine g_yes ?_ | refine g_no_t ?_ | refine g_no_f ?_ | ((first | refine g_sp_t ?_ ?_ | refine g_sp_f ?_ ?_); all_goals (intro hc; have hp := hc; first | (simp at hp; done) | ((try simp at hp); first | (exfalso; omega) | skip))))); show Awp _ _ _ _ _
    (refine Awp.red (red_freeze 0 rfl ?_) ?_; (intro row hrow; obtain rfl := List.mem_singleton.1 hrow; rfl); refine Awp.red (red_fp 3 0 rfl rfl (Nat.le_of_ble_eq_true rfl)) ?_)
    repeat' (first | refine walk ?_ | (first | (apply to_call Tryd.func16 rfl rfl; intro hIsFn; refine o_callf hIsFn (a_jbegun ..) ?_; skip) | (apply to_call Tryd.func30 rfl rfl; intro hIsFn; refine o_callp hIsFn (h1 ..) ?_) | (apply to_call Tryd.func27 rfl rfl; intro hIsFn; refine o_callf hIsFn (hch ..) ?_; skip) | (apply to_call Tryd.func27 rfl rfl; intro hIsFn; refine o_callf hIsFn (hch2 ..) ?_; skip) | (apply opsx_val; apply ex_indexAddr_sl (i := a0); (case hx => rfl); (case hy => exact av_int (by omega)); (case hT => rfl); (case he => rfl); (case hE => rfl); (case hr => exact hr0); (case hk => rfl); (case hN => exact nle rfl))) | ((first | (apply ops_split_t; rfl; rfl; exact nle rfl) | (apply ops_split_f; rfl; rfl; exact nle rfl) | (apply awp_cond; rfl)); all_goals (intro hc; have hp := hc; first | (simp at hp; done) | ((try simp at hp); first | (exfalso; omega) | skip))) | (apply awp_cond_any; rfl))
    all_goals try (exfalso; first | omega | contradiction | (simp_all; done))
    (refine Awp.red (red_pure (ts := [(2, .v (.int .i64 ((1 + m0 : Nat) : Int))), (3, .fp [j.row] 0 0), (10, entAV (treeAt j a0)), (11, .v (.int .i64 (j.first - 1 + (a0 : Int)))), (12, .v (.int .i64 ((0 : Nat) : Int)))]) ?_) ?_; ((repeat (first | exact tsok_nil | refine p_pure ?_ | refine p_eq ?_ ?_))))
    all_goals try (apply av_int; omega)
    refine awp_loop (fun n σ => ∃ (i a : Nat), i ≤ a ∧ a ≤ j.coms.length ∧ n = j.coms.length - a ∧ σ = ⟨[(2, .v (.int .i64 ((1 + m0 : Nat) : Int))), (3, .fp [j.row] 0 0), (10, entAV (treeAt j a)), (11, .v (.int .i64 (j.first - 1 + (a : Int)))), (12, .v (.int .i64 (i : Int)))], [], C.nh⟩) (j.coms.length - a0) ⟨0, a0, Nat.zero_le _, by omega, rfl, rfl⟩ ?_
    rintro n σ ⟨i, a, hia, hal, rfl, rfl⟩
    obtain ⟨c, hc1, hc2, hc3, hc4, hrd, hfo⟩ := hpg a hal
    have h2 := a_read j (j.first - 1 + a) ((1 + m0 : Nat) : Int) hb
    have hbp := read_big (cursor := j.first - 1 + a) (most := ((1 + m0 : Nat) : Int)) hb
    rw [hrd] at h2 hbp
    have h3 := a_follow (treeAt j a) (j.first - 1 + a) _ (treeAt_right hJ a).big hbp
    rw [hfo] at h3
    have hpl : (((j.coms.drop a).take (1 + m0)).map Com.row).length = c := by rw [List.length_map]; exact hc4
    clear hrd hfo hbp hpg h1 hch hch2 hr0
    generalize (j.coms.drop a).take (1 + m0) = X at *
    by_cases hmore : a + c < j.coms.length
    · rw [decide_eq_true hmore] at h2 h3
      generalize treeAt j a = TA at *
      have hc5 := hc3 hmore
      repeat' (first | refine walk ?_ | (first | (apply to_call Tryd.func18 rfl rfl; intro hIsFn; refine o_callp hIsFn (h2 ..) ?_) | (apply to_call Tryd.func25 rfl rfl; intro hIsFn; refine o_callp hIsFn (h3 ..) ?_)) | ((first | (apply ops_split_t; rfl; rfl; exact nle rfl) | (apply ops_split_f; rfl; rfl; exact nle rfl) | (apply awp_cond; rfl)); all_goals (intro hc; have hp := hc; first | (simp at hp; done) | ((try simp at hp); first | (exfalso; omega) | skip))) | (apply awp_cond_any; rfl))
      all_goals try (exfalso; first | omega | contradiction | (simp_all; done))
      refine ⟨j.coms.length - (a + c), _, by omega, red_pure (ts := [(2, .v (.int .i64 ((1 + m0 : Nat) : Int))), (3, .fp [j.row] 0 0), (10, entAV (treeAt j (a + c))), (11, .v (.int .i64 (j.first - 1 + ((a + c : Nat) : Int)))), (12, .v (.int .i64 ((i + 1 : Nat) : Int)))]) ?_, i + 1, a + c, by omega, by omega, rfl, rfl⟩
      (repeat (first | exact tsok_nil | refine p_pure ?_ | refine p_eq ?_ ?_))
    · have hac : a + c = j.coms.length := by omega
      rw [decide_eq_false hmore, hac, treeAt_now] at h3
      rw [decide_eq_false hmore, hac] at h2
      have hl := hJ.now.len
      have h5 := a_sameEntries (nowT j) (nowT j) (by omega) (by omega)
      rw [decide_eq_true rfl] at h5
      generalize treeAt j a = TA at *
      generalize nowT j = U at *
      repeat' (first | refine walk ?_ | (first | (apply to_call Tryd.func18 rfl rfl; intro hIsFn; refine o_callp hIsFn (h2 ..) ?_) | (apply to_call Tryd.func25 rfl rfl; intro hIsFn; refine o_callp hIsFn (h3 ..) ?_) | (apply to_call Tryd.func22 rfl rfl; intro hIsFn; refine o_callp hIsFn (htj ..) ?_) | (apply to_call Tryd.func29 rfl rfl; intro hIsFn; refine o_callf hIsFn (h5 ..) ?_; skip)) | ((first | (apply ops_split_t; rfl; rfl; exact nle rfl) | (apply ops_split_f; rfl; rfl; exact nle rfl) | (apply awp_cond; rfl)); all_goals (intro hc; have hp := hc; first | (simp at hp; done) | ((try simp at hp); first | (exfalso; omega) | skip))) | (apply awp_cond_any; rfl))
      all_goals try (exfalso; first | omega | contradiction | (simp_all; done))
      all_goals (apply fin_bool; rfl; simp; try omega)
  · have hT : openT j = ([], jouE j) := if_neg hz
    rw [hT] at h1
    have h2 := a_jcheck j hb
    generalize jouE j = E at *
    have h1 : AFn C.P 30 [.agg j.row] (.tup [.sl false [], .v (.int .i64 E)]) := h1
    refine acall_intro Tryd.func9 rfl _ Tryd.ntmps9 (Nat.le_of_ble_eq_true rfl) _ Tryd.results9 0 rfl rfl ?_
    repeat' (first | refine walk ?_ | (first | (apply to_call Tryd.func16 rfl rfl; intro hIsFn; refine o_callf hIsFn (a_jbegun ..) ?_; skip) | (apply to_call Tryd.func30 rfl rfl; intro hIsFn; refine o_callp hIsFn (h1 ..) ?_) | (apply to_call Tryd.func21 rfl rfl; intro hIsFn; refine o_callf hIsFn (h2 ..) ?_; skip)) | ((first | (apply ops_split_t; rfl; rfl; exact nle rfl) | (apply ops_split_f; rfl; rfl; exact nle rfl) | (apply awp_cond; rfl)); all_goals (intro hc; have hp := hc; first | (simp at hp; done) | ((try simp at hp); first | (exfalso; omega) | skip))) | (apply awp_cond_any; rfl))
    all_goals try (exfalso; first | omega | contradiction)
    all_goals (apply fin_bool; rfl; simp; try omega)
end Go.Proofs.YtkkfilkmkdnboaaDoor
