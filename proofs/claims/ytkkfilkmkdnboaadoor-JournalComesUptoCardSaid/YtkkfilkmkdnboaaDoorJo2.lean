/- Journals in the abstract layer, 2: the reference's OpenJournal. -/
import Derived.Test.YtkkfilkmkdnboaaDoorJo1
set_option linter.unusedSimpArgs false
set_option linter.unnecessarySimpa false
set_option linter.unusedVariables false
set_option maxHeartbeats 1000000
namespace Go.Proofs.YtkkfilkmkdnboaaDoor
open Go.Ab Go.RowKit
set_option maxRecDepth 10000
attribute [local irreducible] Awp Ops OpsX Wanted Red ExOk Go.Ab.Fin ACall Rz RzL RzRows Enters ResOk RenV RenVL ArgV ArgVL

def treesAV (l : List (List Ent)) : AV := .sl false (l.map treeRow)
def openT (j : Jou) : List (List Ent) × Int := if jouE j = 0 then (j.base :: comsT j.base j.coms, 0) else ([], jouE j)
def openTR (r : List (List Ent) × Int) : AV := .tup [treesAV r.1, .v (.int .i64 r.2)]
theorem openT_bad {j : Jou} (h : ¬ jouE j = 0) : openT j = ([], jouE j) := if_neg h
theorem jouE_eq (j : Jou) : jouE j = if ¬ treeErr j.base = 0 then treeErr j.base else if j.first < 1 ∨ 1000000 < j.first then 3 else if 30 < j.coms.length then 2
  else if ¬ (comsR j.first j.base j.coms).2 = 0 then (comsR j.first j.base j.coms).2 else if keysOk j.coms = true then 0 else 6 := rfl
theorem isVer_first {n : Int} : isVer n = true ↔ ¬ (n < 1 ∨ 1000000 < n) := by simp [isVer]
theorem a_openR (j : Jou) (hb : JBig j) : AFn C.P 30 [.agg j.row] (openTR (openT j)) := by
  have hc := a_checkTreeR j.base hb.base
  have hv := a_isVerR j.first
  have hml : (j.coms.map Com.row).length = j.coms.length := List.length_map ..
  have hE := jouE_eq j
  have hT : openT j = if jouE j = 0 then (j.base :: comsT j.base j.coms, 0) else ([], jouE j) := rfl
  by_cases h1 : treeErr j.base = 0
  · rw [if_neg (by simp [h1])] at hE
    rw [h1] at hc
    by_cases h2 : j.first < 1 ∨ 1000000 < j.first
    · rw [if_pos h2] at hE
      rw [hE, if_neg (by decide)] at hT
      rw [hT]
      have hv2 : isVer j.first = false := by
        cases h : isVer j.first with
        | false => rfl
        | true => exact absurd h2 (isVer_first.1 h)
      rw [hv2] at hv
      refine acall_intro Tryd.func30 rfl _ Tryd.ntmps30 (Nat.le_of_ble_eq_true rfl) _ Tryd.results30 0 rfl rfl ?_
      repeat' (first | refine walk ?_ | (first | (apply to_call Tryd.func28 rfl rfl; intro hIsFn; refine o_callp hIsFn (hc ..) ?_) | (apply to_call Tryd.func56 rfl rfl; intro hIsFn; refine o_callf hIsFn (hv ..) ?_; skip)) | ((first | (apply awp_cond; rfl)); all_goals (intro hc; have hp := hc; first | (simp at hp; done) | ((try simp at hp); first | (exfalso; omega) | skip))) | (apply awp_cond_any; rfl))
      all_goals try (exfalso; omega)
      all_goals ((refine f_pure (rs := [.tmp 2, .tmp 3]) ?_; (repeat' (first | exact rzl_nil | apply rzl_cons | exact rz_pure rfl | exact rz_ex | exact z_os | apply rz_agg | apply rz_tup | apply rz_clo | apply rz_int | apply rz_bool | apply rz_str | refine z_eq ?_ | apply rz_sl)); all_goals trace_state))
    · rw [if_neg h2] at hE
      rw [isVer_first.2 h2] at hv
      by_cases h3 : 30 < j.coms.length
      · rw [if_pos h3] at hE
        rw [hE, if_neg (by decide)] at hT
        rw [hT]
        refine acall_intro Tryd.func30 rfl _ Tryd.ntmps30 (Nat.le_of_ble_eq_true rfl) _ Tryd.results30 0 rfl rfl ?_
        repeat' (first | refine walk ?_ | (first | (apply to_call Tryd.func28 rfl rfl; intro hIsFn; refine o_callp hIsFn (hc ..) ?_) | (apply to_call Tryd.func56 rfl rfl; intro hIsFn; refine o_callf hIsFn (hv ..) ?_; skip)) | ((first | (apply awp_cond; rfl)); all_goals (intro hc; have hp := hc; first | (simp at hp; done) | ((try simp at hp); first | (exfalso; omega) | skip))) | (apply awp_cond_any; rfl))
        all_goals try (exfalso; omega)
        all_goals ((refine f_pure (rs := [.tmp 2, .tmp 3]) ?_; (repeat' (first | exact rzl_nil | apply rzl_cons | exact rz_pure rfl | exact rz_ex | exact z_os | apply rz_agg | apply rz_tup | apply rz_clo | apply rz_int | apply rz_bool | apply rz_str | refine z_eq ?_ | apply rz_sl)); all_goals trace_state))
      · rw [if_neg h3] at hE
        have hR := right_iff.1 h1
        generalize hRR : comsR j.first j.base j.coms = R at *
        generalize hTT : comsT j.base j.coms = TT at *
        generalize openT j = O at *
        generalize jouE j = JE at *
        refine acall_intro Tryd.func30 rfl _ Tryd.ntmps30 (Nat.le_of_ble_eq_true rfl) _ Tryd.results30 0 rfl rfl ?_
        (repeat apply awp_seq); apply awp_region; (repeat' (first | apply ops_free | refine o_mv ?_ | refine o_as ?_ | refine o_ld ?_ | refine o_fa ?_ | refine o_bi ?_ | refine o_ln ?_ | refine o_ia ?_ | refine o_no ?_ | refine o_ex ?_ | refine o_al ?_ | refine o_bx ?_ | refine o_sto ?_ | (first | fail) | refine r_nil ?_)); show Awp _ _ _ _ _
        (refine Awp.red (red_freeze 0 rfl ?_) ?_; (intro row hrow; obtain rfl := List.mem_singleton.1 hrow; rfl); refine Awp.red (red_fp 1 0 rfl rfl (Nat.le_of_ble_eq_true rfl)) ?_)
        repeat' (first | refine walk ?_ | (first | (apply to_call Tryd.func28 rfl rfl; intro hIsFn; refine o_callp hIsFn (hc ..) ?_) | (apply to_call Tryd.func56 rfl rfl; intro hIsFn; refine o_callf hIsFn (hv ..) ?_; skip) | (refine o_bsl ?_)) | ((first | (apply awp_cond; rfl)); all_goals (intro hc; have hp := hc; first | (simp at hp; done) | ((try simp at hp); first | (exfalso; omega) | skip))) | (apply awp_cond_any; rfl))
        all_goals try (exfalso; omega)
        (refine Awp.red (red_ren (τ := ⟨[(1, .fp [j.row] 0 0), (5, .os 0 0 1), (6, entAV j.base), (7, .v (.int .i64 ((0 : Nat) : Int)))], [(0, .own false 1 [treeRow j.base])], 1⟩) [(1, 0)] rfl ?gts ?ghs) ?gmain; (case gts => (repeat (first | exact tsok_nil | refine p_pure ?_ | refine p_op ?_ | refine p_os ?_ | refine p_eq ?_ ?_))); (case ghs => (repeat (first | exact hsok_nil | refine q_id ?_ | refine q_idx ?_ ?_))))
        refine awp_loop (fun n σ => ∃ (i : Nat) (u : List Ent) (S : List (List Ent)), i ≤ j.coms.length ∧ n = j.coms.length - i ∧ (R = comsR (j.first + i) u (j.coms.drop i) ∧ Right u ∧ j.base :: TT = S ++ comsT u (j.coms.drop i) ∧ S.length = i + 1) ∧ σ = ⟨[(1, .fp [j.row] 0 0), (5, .os 0 0 S.length), (6, entAV u), (7, .v (.int .i64 (i : Int)))], [(0, .own false 1 (S.map treeRow))], 1⟩) j.coms.length ⟨0, j.base, [j.base], Nat.zero_le _, rfl, ⟨by rw [← hRR]; simp, hR, by rw [← hTT]; rfl, rfl⟩, rfl⟩ ?_
        rintro n σ ⟨i, u, S, hi, rfl, ⟨hRi, hRu, hTi, hSl⟩, rfl⟩
        by_cases hlt : i < j.coms.length
        · have hr := getRow (f := Com.row) hlt
          have hcs := hb.coms.each j.coms[i] (List.getElem_mem _)
          have hkl := hcs.key
          have hkey := a_isKeyR j.coms[i].key (by omega)
          have hall := a_allOf u j.coms[i].chs j.coms[i].num hRu.len (RightE.of (right_iff.2 hRu)) hcs.chs
          rw [← allT_eq2 hRu] at hall
          have hcl : (j.coms[i].chs.map Chg.row).length = j.coms[i].chs.length := List.length_map ..
          have hsl : (S.map treeRow).length = S.length := List.length_map ..
          have hnil : j.coms[i].chs = [] ↔ j.coms[i].chs.length = 0 := List.length_eq_zero_iff.symm
          rw [comsR_drop hlt] at hRi
          rw [comsT_drop hlt] at hTi
          by_cases hce : comErr (j.first + i) j.coms[i] = 0
          · obtain ⟨e1, e2, e3, e4⟩ := comErr_zero hce
            rw [if_neg (by simp [hce])] at hRi
            rw [e3] at hkey
            have hRn := @allT_right j.coms[i].num u j.coms[i].chs hRu
            generalize allT j.coms[i].num u j.coms[i].chs = T at *
            obtain ⟨t2, n2, er⟩ := T
            by_cases hz : er = 0
            · subst hz
              rw [if_neg (by simp)] at hRi
              have hRn := hRn rfl
              have hRi2 : R = comsR (j.first + ((i + 1 : Nat) : Int)) t2 (j.coms.drop (i + 1)) := by rw [hRi]; congr 1; omega
              have hTi2 : j.base :: TT = (S ++ [t2]) ++ comsT t2 (j.coms.drop (i + 1)) := by rw [hTi]; simp
              clear hRi hRR hE hce e3 hTi hTT hT
              repeat' (first | refine walk ?_ | (first | (apply to_call Tryd.func50 rfl rfl; intro hIsFn; refine o_callf hIsFn (hkey ..) ?_; skip) | (apply to_call Tryd.func51 rfl rfl; intro hIsFn; refine o_callp hIsFn (hall ..) ?_) | (refine o_fzl ?_) | (refine o_appo ?_)) | ((first | (apply awp_cond; rfl)); all_goals (intro hc; have hp := hc; first | (simp at hp; done) | ((try simp at hp); first | (exfalso; omega) | skip))) | (apply awp_cond_any; rfl))
              all_goals try (exfalso; first | omega | contradiction)
              refine ⟨j.coms.length - (i + 1), _, by omega, red_ren (τ := ⟨[(1, .fp [j.row] 0 0), (5, .os 0 0 (S ++ [t2]).length), (6, entAV t2), (7, .v (.int .i64 ((i + 1 : Nat) : Int)))], [(0, .own false 1 ((S ++ [t2]).map treeRow))], 1⟩) [(2, 0)] rfl ?gts ?ghs, i + 1, t2, S ++ [t2], by omega, rfl, ⟨hRi2, hRn, hTi2, by simp [hSl]⟩, rfl⟩
              (case gts => (repeat (first | exact tsok_nil | refine p_pure ?_ | refine p_op ?_ | refine p_os ?_ | refine p_eq ?_ ?_)))
              (case ghs => (repeat (first | exact hsok_nil | refine q_id ?_ | refine q_idx ?_ ?_)); all_goals (rw [List.take_of_length_le (by simp), List.map_append]; rfl))
            · rw [if_pos hz] at hRi
              rw [hRi, if_pos hz] at hE
              rw [if_neg (by rw [hE]; exact hz), hE] at hT
              rw [hT]
              clear hRi hRR hE hce e3 hTi hTT hT
              repeat' (first | refine walk ?_ | (first | (apply to_call Tryd.func50 rfl rfl; intro hIsFn; refine o_callf hIsFn (hkey ..) ?_; skip) | (apply to_call Tryd.func51 rfl rfl; intro hIsFn; refine o_callp hIsFn (hall ..) ?_)) | ((first | (apply awp_cond; rfl)); all_goals (intro hc; have hp := hc; first | (simp at hp; done) | ((try simp at hp); first | (exfalso; omega) | skip))) | (apply awp_cond_any; rfl))
              all_goals try (exfalso; first | omega | contradiction)
              (refine f_pure (rs := [.tmp 2, .tmp 3]) ?_; (repeat' (first | exact rzl_nil | apply rzl_cons | exact rz_pure rfl | exact rz_ex | exact z_os | apply rz_agg | apply rz_tup | apply rz_clo | apply rz_int | apply rz_bool | apply rz_str | refine z_eq ?_ | apply rz_sl)); all_goals trace_state)
          · rw [if_pos hce] at hRi
            rw [hRi, if_pos hce] at hE
            rw [if_neg (by rw [hE]; exact hce), hE] at hT
            rw [hT]
            clear hRi hRR hE hall hRu hTi hTT hT
            have hcv : comErr (j.first + i) j.coms[i] = if ¬ j.coms[i].num = j.first + i then 4 else if 1000000 < j.coms[i].num then 3 else if isKey j.coms[i].key = false ∨ j.coms[i].chs = [] then 1 else 0 := rfl
            generalize isKey j.coms[i].key = KK at *
            generalize hCE : comErr (j.first + i) j.coms[i] = CE at *
            clear hCE
            by_cases n1 : j.coms[i].num = j.first + i
            · rw [if_neg (by simp [n1])] at hcv
              by_cases n2 : 1000000 < j.coms[i].num
              · rw [if_pos n2] at hcv
                subst hcv
                (repeat' (first | refine walk ?_ | (first | (apply to_call Tryd.func50 rfl rfl; intro hIsFn; refine o_callf hIsFn (hkey ..) ?_; skip)) | ((first | (apply awp_cond; rfl)); all_goals (intro hc; have hp := hc; first | (simp at hp; done) | ((try simp at hp); first | (exfalso; omega) | skip))) | (apply awp_cond_any; rfl)))
                (all_goals try (exfalso; first | omega | contradiction))
                (all_goals ((refine f_pure (rs := [.tmp 2, .tmp 3]) ?_; (repeat' (first | exact rzl_nil | apply rzl_cons | exact rz_pure rfl | exact rz_ex | exact z_os | apply rz_agg | apply rz_tup | apply rz_clo | apply rz_int | apply rz_bool | apply rz_str | refine z_eq ?_ | apply rz_sl)); all_goals trace_state)))
              · rw [if_neg n2] at hcv
                have hz : KK = false ∨ j.coms[i].chs.length = 0 := by
                  by_cases hq : KK = false ∨ j.coms[i].chs = []
                  · exact hq.imp id hnil.1
                  · rw [if_neg hq] at hcv; exact absurd hcv hce
                obtain rfl : CE = 1 := by rw [hcv, if_pos (hz.imp id hnil.2)]
                clear hcv hce
                cases KK with
                | false =>
                  (repeat' (first | refine walk ?_ | (first | (apply to_call Tryd.func50 rfl rfl; intro hIsFn; refine o_callf hIsFn (hkey ..) ?_; skip)) | ((first | (apply awp_cond; rfl)); all_goals (intro hc; have hp := hc; first | (simp at hp; done) | ((try simp at hp); first | (exfalso; omega) | skip))) | (apply awp_cond_any; rfl)))
                  (all_goals try (exfalso; first | omega | contradiction))
                  (all_goals ((refine f_pure (rs := [.tmp 2, .tmp 3]) ?_; (repeat' (first | exact rzl_nil | apply rzl_cons | exact rz_pure rfl | exact rz_ex | exact z_os | apply rz_agg | apply rz_tup | apply rz_clo | apply rz_int | apply rz_bool | apply rz_str | refine z_eq ?_ | apply rz_sl)); all_goals trace_state)))
                | true =>
                  have hz : j.coms[i].chs.length = 0 := hz.resolve_left (by decide)
                  have hz2 := hnil.2 hz
                  (repeat' (first | refine walk ?_ | (first | (apply to_call Tryd.func50 rfl rfl; intro hIsFn; refine o_callf hIsFn (hkey ..) ?_; skip)) | ((first | (apply awp_cond; rfl)); all_goals (intro hc; have hp := hc; first | (simp at hp; done) | ((try simp at hp); first | (exfalso; omega) | skip))) | (apply awp_cond_any; rfl)))
                  (all_goals try (exfalso; first | omega | contradiction))
                  (all_goals ((refine f_pure (rs := [.tmp 2, .tmp 3]) ?_; (repeat' (first | exact rzl_nil | apply rzl_cons | exact rz_pure rfl | exact rz_ex | exact z_os | apply rz_agg | apply rz_tup | apply rz_clo | apply rz_int | apply rz_bool | apply rz_str | refine z_eq ?_ | apply rz_sl)); all_goals trace_state)))
            · rw [if_pos n1] at hcv
              subst hcv
              (repeat' (first | refine walk ?_ | (first | (apply to_call Tryd.func50 rfl rfl; intro hIsFn; refine o_callf hIsFn (hkey ..) ?_; skip)) | ((first | (apply awp_cond; rfl)); all_goals (intro hc; have hp := hc; first | (simp at hp; done) | ((try simp at hp); first | (exfalso; omega) | skip))) | (apply awp_cond_any; rfl)))
              (all_goals try (exfalso; first | omega | contradiction))
              (all_goals ((refine f_pure (rs := [.tmp 2, .tmp 3]) ?_; (repeat' (first | exact rzl_nil | apply rzl_cons | exact rz_pure rfl | exact rz_ex | exact z_os | apply rz_agg | apply rz_tup | apply rz_clo | apply rz_int | apply rz_bool | apply rz_str | refine z_eq ?_ | apply rz_sl)); all_goals trace_state)))
        · obtain rfl : i = j.coms.length := by omega
          rw [List.drop_length] at hRi hTi
          have hTi : j.base :: TT = S := by rw [hTi]; simp [comsT]
          subst hTi
          rw [hRi, if_neg (by simp [comsR])] at hE
          refine Awp.red (red_freeze 0 rfl (by intro row hrow; obtain ⟨x, _, rfl⟩ := List.mem_map.1 hrow; rfl)) ?_
          refine Awp.red (red_fs 5 0 rfl rfl (by simp)) ?_
          (repeat' (first | refine walk ?_ | (first | fail) | ((first | (apply awp_cond; rfl)); all_goals (intro hc; have hp := hc; first | (simp at hp; done) | ((try simp at hp); first | (exfalso; omega) | skip))) | (apply awp_cond_any; rfl)))
          (all_goals try (exfalso; omega))
          have hE : JE = if keysOk j.coms = true then 0 else 6 := hE
          clear hRi hRR hTT
          (refine Awp.red (red_pure (ts := [(1, .fp [j.row] 0 0), (5, treesAV (j.base :: TT)), (9, .v (.int .i64 ((0 : Nat) : Int)))]) ?_) ?_; ((repeat (first | exact tsok_nil | refine p_pure ?_ | refine p_eq ?_ ?_))))
          all_goals try (rw [List.drop_zero, List.take_of_length_le (by simp)]; rfl)
          refine awp_loop (fun n σ => ∃ i : Nat, i ≤ j.coms.length ∧ n = j.coms.length - i ∧ (((j.coms.take i).map Com.key).Nodup) ∧ σ = ⟨[(1, .fp [j.row] 0 0), (5, treesAV (j.base :: TT)), (9, .v (.int .i64 (i : Int)))], [], C.nh⟩) j.coms.length ⟨0, Nat.zero_le _, rfl, (by simp), rfl⟩ ?_
          rintro n σ ⟨i, hi2, rfl, hnd, rfl⟩
          by_cases hlt2 : i < j.coms.length
          · repeat' (first | refine walk ?_ | fail | ((first | (apply awp_cond; rfl)); all_goals (intro hc; have hp := hc; first | (simp at hp; done) | ((try simp at hp); first | (exfalso; omega) | skip))) | (apply awp_cond_any; rfl))
            all_goals try (exfalso; omega)
            (refine Awp.red (red_pure (ts := [(1, .fp [j.row] 0 0), (5, treesAV (j.base :: TT)), (9, .v (.int .i64 (i : Int))), (10, .v (.int .i64 ((0 : Nat) : Int)))]) ?_) ?_; ((repeat (first | exact tsok_nil | refine p_pure ?_ | refine p_eq ?_ ?_))))
            refine awp_loop (fun n σ => ∃ k : Nat, k ≤ i ∧ n = i - k ∧ (∀ c, c ∈ j.coms.take k → ¬ c.key = j.coms[i].key) ∧ σ = ⟨[(1, .fp [j.row] 0 0), (5, treesAV (j.base :: TT)), (9, .v (.int .i64 (i : Int))), (10, .v (.int .i64 (k : Int)))], [], C.nh⟩) i ⟨0, Nat.zero_le _, rfl, (by simp), rfl⟩ ?_
            rintro n σ ⟨k, hk, rfl, hne, rfl⟩
            have hr2 := getRow (f := Com.row) hlt2
            by_cases hki : k < i
            · have hr1 := getRow (f := Com.row) (l := j.coms) (i := k) (by omega)
              have hnx := mem_take_succ (l := j.coms) (p := fun c => ¬ c.key = j.coms[i].key) (by omega) hne
              by_cases heq : (j.coms[k]'(by omega)).key = j.coms[i].key
              · have hbad : keysOk j.coms = false := by
                  unfold keysOk
                  rw [decide_eq_false_iff_not]
                  intro h
                  have := (List.pairwise_iff_getElem.1 h) k i (by simp; omega) (by simpa using hlt2) hki
                  exact this (by simpa using heq)
                rw [hbad, if_neg (by decide)] at hE
                rw [hE, if_neg (by decide)] at hT
                rw [hT]
                repeat' (first | refine walk ?_ | fail | ((first | (apply awp_cond; rfl)); all_goals (intro hc; have hp := hc; first | (simp at hp; done) | ((try simp at hp); first | (exfalso; omega) | skip))) | (apply awp_cond_any; rfl))
                all_goals try (exfalso; first | omega | contradiction)
                all_goals ((refine f_pure (rs := [.tmp 2, .tmp 3]) ?_; (repeat' (first | exact rzl_nil | apply rzl_cons | exact rz_pure rfl | exact rz_ex | exact z_os | apply rz_agg | apply rz_tup | apply rz_clo | apply rz_int | apply rz_bool | apply rz_str | refine z_eq ?_ | apply rz_sl)); all_goals trace_state))
              · repeat' (first | refine walk ?_ | fail | ((first | (apply awp_cond; rfl)); all_goals (intro hc; have hp := hc; first | (simp at hp; done) | ((try simp at hp); first | (exfalso; omega) | skip))) | (apply awp_cond_any; rfl))
                all_goals try (exfalso; first | omega | contradiction)
                refine ⟨i - (k + 1), _, by omega, red_pure (ts := [(1, .fp [j.row] 0 0), (5, treesAV (j.base :: TT)), (9, .v (.int .i64 (i : Int))), (10, .v (.int .i64 ((k + 1 : Nat) : Int)))]) ?_, k + 1, by omega, rfl, hnx heq, rfl⟩; ((repeat (first | exact tsok_nil | refine p_pure ?_ | refine p_eq ?_ ?_)))
            · obtain rfl : k = i := by omega
              have hnd2 : ((j.coms.take (k + 1)).map Com.key).Nodup := by
                rw [List.take_succ_eq_append_getElem hlt2, List.map_append, List.nodup_append]
                refine ⟨hnd, by simp, fun a ha b hb => ?_⟩
                obtain ⟨c, hc1, rfl⟩ := List.mem_map.1 ha
                have hb : b = j.coms[k].key := by simpa using hb
                rw [hb]; exact hne c hc1
              repeat' (first | refine walk ?_ | fail | ((first | (apply awp_cond; rfl)); all_goals (intro hc; have hp := hc; first | (simp at hp; done) | ((try simp at hp); first | (exfalso; omega) | skip))) | (apply awp_cond_any; rfl))
              all_goals try (exfalso; omega)
              refine ⟨j.coms.length - (k + 1), _, by omega, red_pure (ts := [(1, .fp [j.row] 0 0), (5, treesAV (j.base :: TT)), (9, .v (.int .i64 ((k + 1 : Nat) : Int)))]) ?_, k + 1, by omega, rfl, hnd2, rfl⟩; ((repeat (first | exact tsok_nil | refine p_pure ?_ | refine p_eq ?_ ?_)))
          · obtain rfl : i = j.coms.length := by omega
            rw [List.take_length] at hnd
            rw [show keysOk j.coms = true from decide_eq_true hnd, if_pos rfl] at hE
            rw [if_pos hE] at hT
            rw [hT]
            repeat' (first | refine walk ?_ | fail | ((first | (apply awp_cond; rfl)); all_goals (intro hc; have hp := hc; first | (simp at hp; done) | ((try simp at hp); first | (exfalso; omega) | skip))) | (apply awp_cond_any; rfl))
            all_goals try (exfalso; omega)
            all_goals ((refine f_pure (rs := [.tmp 2, .tmp 3]) ?_; (repeat' (first | exact rzl_nil | apply rzl_cons | exact rz_pure rfl | exact rz_ex | exact z_os | apply rz_agg | apply rz_tup | apply rz_clo | apply rz_int | apply rz_bool | apply rz_str | refine z_eq ?_ | apply rz_sl)); all_goals trace_state))
  · rw [if_pos h1] at hE
    rw [hE, if_neg h1] at hT
    rw [hT]
    generalize treeErr j.base = E at *
    refine acall_intro Tryd.func30 rfl _ Tryd.ntmps30 (Nat.le_of_ble_eq_true rfl) _ Tryd.results30 0 rfl rfl ?_
    repeat' (first | refine walk ?_ | (first | (apply to_call Tryd.func28 rfl rfl; intro hIsFn; refine o_callp hIsFn (hc ..) ?_)) | ((first | (apply awp_cond; rfl)); all_goals (intro hc; have hp := hc; first | (simp at hp; done) | ((try simp at hp); first | (exfalso; omega) | skip))) | (apply awp_cond_any; rfl))
    all_goals try (exfalso; omega)
    all_goals ((refine f_pure (rs := [.tmp 2, .tmp 3]) ?_; (repeat' (first | exact rzl_nil | apply rzl_cons | exact rz_pure rfl | exact rz_ex | exact z_os | apply rz_agg | apply rz_tup | apply rz_clo | apply rz_int | apply rz_bool | apply rz_str | refine z_eq ?_ | apply rz_sl)); all_goals trace_state))
end Go.Proofs.YtkkfilkmkdnboaaDoor
