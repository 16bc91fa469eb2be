import Derived.Test.YtkkfilkmkdnboaaDoorMz19
import Derived.Test.YtkkfilkmkdnboaaDoorMz20
import Derived.Test.YtkkfilkmkdnboaaDoorMz21
/- Journals in the abstract layer, 1: Open. -/
set_option linter.unusedSimpArgs false
set_option linter.unnecessarySimpa false
set_option linter.unusedVariables false
set_option maxHeartbeats 1000000
namespace Go.Proofs.YtkkfilkmkdnboaaDoor
open Go.Ab Go.RowKit
set_option maxRecDepth 10000
attribute [local irreducible] Awp Ops OpsX Wanted Red ExOk Go.Ab.Fin ACall Rz RzL RzRows Enters ResOk RenV RenVL ArgV ArgVL

def keepRow (j : Jou) (t : List Ent) : List AV := [entAV j.base, .v (.int .i64 j.first), comAV j.coms, entAV t]
def openR (j : Jou) (r : List Ent × Int) : AV := if r.2 = 0 then .tup [.fp [keepRow j r.1] 0 0, .v (.int .i64 0)] else .tup [.v (.pointer none), .v (.int .i64 r.2)]
def openP (j : Jou) : List Ent × Int :=
  if ¬ treeErr j.base = 0 then ([], treeErr j.base) else if j.first < 1 ∨ 1000000 < j.first then ([], 3) else if 30 < j.coms.length then ([], 2)
  else if ¬ (comsR j.first j.base j.coms).2 = 0 then ([], (comsR j.first j.base j.coms).2) else if keysOk j.coms = true then (nowT j, 0) else ([], 6)
theorem openP_err (j : Jou) : (openP j).2 = jouE j := by
  unfold openP jouE
  (repeat' split) <;> simp_all
theorem openP_now {j : Jou} (h : jouE j = 0) : openP j = (nowT j, 0) := by
  have hR := jright_iff.1 h
  unfold openP
  rw [if_neg (by simp [right_iff.2 hR.base]), if_neg (by have := hR.lo; have := hR.hi; omega), if_neg (by have := hR.len; omega), if_neg (by simp [hR.run]), if_pos (by simp [keysOk, hR.keys])]
theorem openR_err {j : Jou} {e : Int} (h : ¬ e = 0) : openR j ([], e) = .tup [.v (.pointer none), .v (.int .i64 e)] := if_neg h
theorem keysOk_few (l : List Com) : keysOk l = true ↔ ¬ (keyM (l.map Com.key)).length < l.length := by
  have := keyM_few (l.map Com.key)
  rw [List.length_map] at this
  rw [this]
  simp [keysOk]
theorem keyM_succ {l : List Com} {i : Nat} (h : i < l.length) : keyM ((l.take (i + 1)).map Com.key) = mapPut (keyM ((l.take i).map Com.key)) l[i].key yes := by
  rw [List.take_succ_eq_append_getElem h, List.map_append]; exact keyM_snoc _ _
theorem a_open (j : Jou) (hb : JBig j) : AFn C.P 41 [.agg j.row] (openR j (openP j)) := by
  have hc := a_tcheck j.base hb.base
  have hml : (j.coms.map Com.row).length = j.coms.length := List.length_map ..
  have hE : openP j = if ¬ treeErr j.base = 0 then ([], treeErr j.base) else if j.first < 1 ∨ 1000000 < j.first then ([], 3) else if 30 < j.coms.length then ([], 2) else if ¬ (comsR j.first j.base j.coms).2 = 0 then ([], (comsR j.first j.base j.coms).2) else if keysOk j.coms = true then ((comsR j.first j.base j.coms).1, 0) else ([], 6) := rfl
  by_cases h1 : treeErr j.base = 0
  · rw [if_neg (by simp [h1])] at hE
    rw [h1] at hc
    by_cases h2 : j.first < 1 ∨ 1000000 < j.first
    · rw [if_pos h2] at hE
      rw [hE, openR_err (by decide)]
      refine acall_intro Tryd.func41 rfl _ Tryd.ntmps41 (Nat.le_of_ble_eq_true rfl) _ Tryd.results41 0 rfl rfl ?_
      repeat' (first | refine walk ?_ | (first | (apply to_call Tryd.func53 rfl rfl; intro hIsFn; refine o_callp hIsFn (hc ..) ?_)) | ((first | (apply ops_split_t; rfl; rfl; exact nle rfl) | (apply ops_split_f; rfl; rfl; exact nle rfl) | (apply awp_cond; rfl)); all_goals (intro hc; have hp := hc; first | (simp at hp; done) | ((try simp at hp); first | (exfalso; omega) | skip))) | (apply awp_cond_any; rfl))
      all_goals try (exfalso; omega)
      all_goals ((refine f_pure (rs := [.tmp 2, .tmp 3]) ?_; (repeat' (first | exact rzl_nil | apply rzl_cons | exact rz_pure rfl | exact rz_ex | exact z_os | apply rz_agg | apply rz_tup | apply rz_clo | apply rz_int | apply rz_bool | apply rz_str | refine z_eq ?_ | apply rz_sl)); all_goals trace_state))
    · rw [if_neg h2] at hE
      by_cases h3 : 30 < j.coms.length
      · rw [if_pos h3] at hE
        rw [hE, openR_err (by decide)]
        refine acall_intro Tryd.func41 rfl _ Tryd.ntmps41 (Nat.le_of_ble_eq_true rfl) _ Tryd.results41 0 rfl rfl ?_
        repeat' (first | refine walk ?_ | (first | (apply to_call Tryd.func53 rfl rfl; intro hIsFn; refine o_callp hIsFn (hc ..) ?_)) | ((first | (apply ops_split_t; rfl; rfl; exact nle rfl) | (apply ops_split_f; rfl; rfl; exact nle rfl) | (apply awp_cond; rfl)); all_goals (intro hc; have hp := hc; first | (simp at hp; done) | ((try simp at hp); first | (exfalso; omega) | skip))) | (apply awp_cond_any; rfl))
        all_goals try (exfalso; omega)
        all_goals ((refine f_pure (rs := [.tmp 2, .tmp 3]) ?_; (repeat' (first | exact rzl_nil | apply rzl_cons | exact rz_pure rfl | exact rz_ex | exact z_os | apply rz_agg | apply rz_tup | apply rz_clo | apply rz_int | apply rz_bool | apply rz_str | refine z_eq ?_ | apply rz_sl)); all_goals trace_state))
      · rw [if_neg h3] at hE
        have hk := keysOk_few j.coms
        have hR := right_iff.1 h1
        generalize hRR : comsR j.first j.base j.coms = R at *
        generalize openP j = O at *
        generalize keysOk j.coms = K at *
        refine acall_intro Tryd.func41 rfl _ Tryd.ntmps41 (Nat.le_of_ble_eq_true rfl) _ Tryd.results41 0 rfl rfl ?_
        repeat' (first | refine walk ?_ | (first | (apply to_call Tryd.func53 rfl rfl; intro hIsFn; refine o_callp hIsFn (hc ..) ?_) | (apply opsx_new; apply ex_makeMap; exact nle rfl)) | ((first | (apply ops_split_t; rfl; rfl; exact nle rfl) | (apply ops_split_f; rfl; rfl; exact nle rfl) | (apply awp_cond; rfl)); all_goals (intro hc; have hp := hc; first | (simp at hp; done) | ((try simp at hp); first | (exfalso; omega) | skip))) | (apply awp_cond_any; rfl))
        all_goals try (exfalso; omega)
        (refine Awp.red (red_ren (τ := ⟨[(1, .op 0 0 0), (5, .op 1 0 0), (6, .mp 2), (39, comAV j.coms), (40, .v (.int .i64 j.coms.length)), (41, .v (.int .i64 ((0 : Nat) : Int)))], [(0, .own false 3 [j.row]), (1, .own false 4 [keepRow j j.base]), (2, .mp (keyM ((j.coms.take 0).map Com.key)))], 3⟩) [(0, 0), (1, 1), (2, 2)] rfl ?gts2 ?ghs2) ?gmain2; (case gts2 => (repeat (first | exact tsok_nil | refine p_pure ?_ | refine p_op ?_ | refine p_osr ?_ | refine p_mp ?_ | refine p_osx ?_ ?_ | refine p_eq ?_ ?_)); all_goals (first | (rw [List.length_map]; done) | rfl | exact nofun)); (case ghs2 => (repeat (first | exact hsok_nil | refine q_r ?_ | refine q_mp ?_ ?_ ?_ | refine q_idx ?_ ?_)); all_goals (first | (rw [List.length_map]; done) | rfl | exact nofun)))
        refine awp_loop (fun n σ => ∃ (i : Nat) (u : List Ent), i ≤ j.coms.length ∧ n = j.coms.length - i ∧ (R = comsR (j.first + i) u (j.coms.drop i) ∧ Right u) ∧ σ = ⟨[(1, .op 0 0 0), (5, .op 1 0 0), (6, .mp 2), (39, comAV j.coms), (40, .v (.int .i64 j.coms.length)), (41, .v (.int .i64 (i : Int)))], [(0, .own false 3 [j.row]), (1, .own false 4 [keepRow j u]), (2, .mp (keyM ((j.coms.take i).map Com.key)))], 3⟩) j.coms.length ⟨0, j.base, Nat.zero_le _, rfl, ⟨by rw [← hRR]; simp, hR⟩, rfl⟩ ?_
        rintro n σ ⟨i, u, hi, rfl, ⟨hRi, hRu⟩, rfl⟩
        by_cases hlt : i < j.coms.length
        · have hr := getRow (f := Com.row) hlt
          have hcs := hb.coms.each j.coms[i] (List.getElem_mem _)
          have hkey := a_isKey j.coms[i].key
          have hall := a_all u j.coms[i].chs j.coms[i].num hRu.big hcs.chs
          have hkm := keyM_succ hlt
          have hkp := keyM_pure ((j.coms.take (i + 1)).map Com.key)
          have hcl : (j.coms[i].chs.map Chg.row).length = j.coms[i].chs.length := List.length_map ..
          have hnil : j.coms[i].chs = [] ↔ j.coms[i].chs.length = 0 := List.length_eq_zero_iff.symm
          rw [comsR_drop hlt] at hRi
          by_cases hce : comErr (j.first + i) j.coms[i] = 0
          · obtain ⟨e1, e2, e3, e4⟩ := comErr_zero hce
            rw [if_neg (by simp [hce])] at hRi
            rw [e3] at hkey
            have hRn := @allT_right j.coms[i].num u j.coms[i].chs hRu
            generalize allT j.coms[i].num u j.coms[i].chs = T at *
            obtain ⟨t2, n2, er⟩ := T
            by_cases hz : er = 0
            · subst hz
              rw [if_neg (by simp)] at hRi
              have hRn := hRn rfl
              have hRi2 : R = comsR (j.first + ((i + 1 : Nat) : Int)) t2 (j.coms.drop (i + 1)) := by rw [hRi]; congr 1; omega
              clear hRi hRR hE hce e3
              repeat' (first | refine walk ?_ | (first | (apply to_call Tryd.func42 rfl rfl; intro hIsFn; refine o_callf hIsFn (hkey ..) ?_; skip) | (apply to_call Tryd.func48 rfl rfl; intro hIsFn; refine o_callp hIsFn (hall ..) ?_) | (apply opsx_store; apply ex_mapUpdate; rfl; rfl; rfl; rfl; rfl; rfl; rfl; rfl)) | ((first | (apply ops_split_t; rfl; rfl; exact nle rfl) | (apply ops_split_f; rfl; rfl; exact nle rfl) | (apply awp_cond; rfl)); all_goals (intro hc; have hp := hc; first | (simp at hp; done) | ((try simp at hp); first | (exfalso; omega) | skip))) | (apply awp_cond_any; rfl))
              all_goals try (exfalso; first | omega | (simp_all; done))
              refine ⟨j.coms.length - (i + 1), _, by omega, red_ren (τ := ⟨[(1, .op 0 0 0), (5, .op 1 0 0), (6, .mp 2), (39, comAV j.coms), (40, .v (.int .i64 j.coms.length)), (41, .v (.int .i64 ((i + 1 : Nat) : Int)))], [(0, .own false 3 [j.row]), (1, .own false 4 [keepRow j t2]), (2, .mp (keyM ((j.coms.take (i + 1)).map Com.key)))], 3⟩) [(0, 0), (1, 1), (2, 2)] rfl ?gts ?ghs, i + 1, t2, by omega, rfl, ⟨hRi2, hRn⟩, rfl⟩; (case gts => (repeat (first | exact tsok_nil | refine p_pure ?_ | refine p_op ?_ | refine p_osr ?_ | refine p_mp ?_ | refine p_osx ?_ ?_ | refine p_eq ?_ ?_)); all_goals (first | (rw [hkm]; rfl) | exact hkp | rfl)); (case ghs => (repeat (first | exact hsok_nil | refine q_r ?_ | refine q_mp ?_ ?_ ?_ | refine q_idx ?_ ?_)); all_goals (first | (rw [hkm]; rfl) | exact hkp | rfl))
            · rw [if_pos hz] at hRi
              rw [hRi, if_pos hz] at hE
              rw [hE, openR_err hz]
              clear hRi hRR hE hce e3
              repeat' (first | refine walk ?_ | (first | (apply to_call Tryd.func42 rfl rfl; intro hIsFn; refine o_callf hIsFn (hkey ..) ?_; skip) | (apply to_call Tryd.func48 rfl rfl; intro hIsFn; refine o_callp hIsFn (hall ..) ?_)) | ((first | (apply ops_split_t; rfl; rfl; exact nle rfl) | (apply ops_split_f; rfl; rfl; exact nle rfl) | (apply awp_cond; rfl)); all_goals (intro hc; have hp := hc; first | (simp at hp; done) | ((try simp at hp); first | (exfalso; omega) | skip))) | (apply awp_cond_any; rfl))
              all_goals try (exfalso; first | omega | (simp_all; done))
              (refine f_pure (rs := [.tmp 2, .tmp 3]) ?_; (repeat' (first | exact rzl_nil | apply rzl_cons | exact rz_pure rfl | exact rz_ex | exact z_os | apply rz_agg | apply rz_tup | apply rz_clo | apply rz_int | apply rz_bool | apply rz_str | refine z_eq ?_ | apply rz_sl)); all_goals trace_state)
          · rw [if_pos hce] at hRi
            rw [hRi, if_pos hce] at hE
            rw [hE, openR_err hce]
            clear hRi hRR hE hk hkm hkp hall hRu
            have hcv : comErr (j.first + i) j.coms[i] = if ¬ j.coms[i].num = j.first + i then 4 else if 1000000 < j.coms[i].num then 3 else if isKey j.coms[i].key = false ∨ j.coms[i].chs = [] then 1 else 0 := rfl
            generalize isKey j.coms[i].key = KK at *
            generalize hCE : comErr (j.first + i) j.coms[i] = CE at *
            clear hCE
            by_cases n1 : j.coms[i].num = j.first + i
            · rw [if_neg (by simp [n1])] at hcv
              by_cases n2 : 1000000 < j.coms[i].num
              · rw [if_pos n2] at hcv
                subst hcv
                (repeat' (first | refine walk ?_ | (first | (apply to_call Tryd.func42 rfl rfl; intro hIsFn; refine o_callf hIsFn (hkey ..) ?_; skip)) | ((first | (apply ops_split_t; rfl; rfl; exact nle rfl) | (apply ops_split_f; rfl; rfl; exact nle rfl) | (apply awp_cond; rfl)); all_goals (intro hc; have hp := hc; first | (simp at hp; done) | ((try simp at hp); first | (exfalso; omega) | skip))) | (apply awp_cond_any; rfl)))
                (all_goals try (exfalso; first | omega | contradiction))
                (all_goals ((refine f_pure (rs := [.tmp 2, .tmp 3]) ?_; (repeat' (first | exact rzl_nil | apply rzl_cons | exact rz_pure rfl | exact rz_ex | exact z_os | apply rz_agg | apply rz_tup | apply rz_clo | apply rz_int | apply rz_bool | apply rz_str | refine z_eq ?_ | apply rz_sl)); all_goals trace_state)))
              · rw [if_neg n2] at hcv
                have hz : KK = false ∨ j.coms[i].chs.length = 0 := by
                  by_cases hq : KK = false ∨ j.coms[i].chs = []
                  · exact hq.imp id hnil.1
                  · rw [if_neg hq] at hcv; exact absurd hcv hce
                obtain rfl : CE = 1 := by rw [hcv, if_pos (hz.imp id hnil.2)]
                clear hcv hce
                cases KK with
                | false =>
                  (repeat' (first | refine walk ?_ | (first | (apply to_call Tryd.func42 rfl rfl; intro hIsFn; refine o_callf hIsFn (hkey ..) ?_; skip)) | ((first | (apply ops_split_t; rfl; rfl; exact nle rfl) | (apply ops_split_f; rfl; rfl; exact nle rfl) | (apply awp_cond; rfl)); all_goals (intro hc; have hp := hc; first | (simp at hp; done) | ((try simp at hp); first | (exfalso; omega) | skip))) | (apply awp_cond_any; rfl)))
                  (all_goals try (exfalso; first | omega | contradiction))
                  (all_goals ((refine f_pure (rs := [.tmp 2, .tmp 3]) ?_; (repeat' (first | exact rzl_nil | apply rzl_cons | exact rz_pure rfl | exact rz_ex | exact z_os | apply rz_agg | apply rz_tup | apply rz_clo | apply rz_int | apply rz_bool | apply rz_str | refine z_eq ?_ | apply rz_sl)); all_goals trace_state)))
                | true =>
                  have hz : j.coms[i].chs.length = 0 := hz.resolve_left (by decide)
                  have hz2 := hnil.2 hz
                  (repeat' (first | refine walk ?_ | (first | (apply to_call Tryd.func42 rfl rfl; intro hIsFn; refine o_callf hIsFn (hkey ..) ?_; skip)) | ((first | (apply ops_split_t; rfl; rfl; exact nle rfl) | (apply ops_split_f; rfl; rfl; exact nle rfl) | (apply awp_cond; rfl)); all_goals (intro hc; have hp := hc; first | (simp at hp; done) | ((try simp at hp); first | (exfalso; omega) | skip))) | (apply awp_cond_any; rfl)))
                  (all_goals try (exfalso; first | omega | contradiction))
                  (all_goals ((refine f_pure (rs := [.tmp 2, .tmp 3]) ?_; (repeat' (first | exact rzl_nil | apply rzl_cons | exact rz_pure rfl | exact rz_ex | exact z_os | apply rz_agg | apply rz_tup | apply rz_clo | apply rz_int | apply rz_bool | apply rz_str | refine z_eq ?_ | apply rz_sl)); all_goals trace_state)))
            · rw [if_pos n1] at hcv
              subst hcv
              (repeat' (first | refine walk ?_ | (first | (apply to_call Tryd.func42 rfl rfl; intro hIsFn; refine o_callf hIsFn (hkey ..) ?_; skip)) | ((first | (apply ops_split_t; rfl; rfl; exact nle rfl) | (apply ops_split_f; rfl; rfl; exact nle rfl) | (apply awp_cond; rfl)); all_goals (intro hc; have hp := hc; first | (simp at hp; done) | ((try simp at hp); first | (exfalso; omega) | skip))) | (apply awp_cond_any; rfl)))
              (all_goals try (exfalso; first | omega | contradiction))
              (all_goals ((refine f_pure (rs := [.tmp 2, .tmp 3]) ?_; (repeat' (first | exact rzl_nil | apply rzl_cons | exact rz_pure rfl | exact rz_ex | exact z_os | apply rz_agg | apply rz_tup | apply rz_clo | apply rz_int | apply rz_bool | apply rz_str | refine z_eq ?_ | apply rz_sl)); all_goals trace_state)))
        · obtain rfl : i = j.coms.length := by omega
          rw [List.drop_length] at hRi
          rw [hRi, if_neg (by simp [comsR])] at hE
          rw [List.take_length]
          have hE : O = if K = true then (u, 0) else ([], 6) := hE
          (refine Awp.red (red_freeze 1 rfl ?_) ?_; (intro row hrow; obtain rfl := List.mem_singleton.1 hrow; rfl); refine Awp.red (red_fp 5 1 rfl rfl (Nat.le_of_ble_eq_true rfl)) ?_)
          cases K with
          | true =>
            rw [if_pos rfl] at hE
            have hk := hk.1 rfl
            rw [hE]
            clear hRi hRR hE
            repeat' (first | refine walk ?_ | (first | (apply opsx_val; apply ex_len_mp; rfl; rfl; rfl; rfl; exact nle rfl)) | ((first | (apply ops_split_t; rfl; rfl; exact nle rfl) | (apply ops_split_f; rfl; rfl; exact nle rfl) | (apply awp_cond; rfl)); all_goals (intro hc; have hp := hc; first | (simp at hp; done) | ((try simp at hp); first | (exfalso; omega) | skip))) | (apply awp_cond_any; rfl))
            all_goals try (exfalso; first | omega | (simp_all; done))
            (refine f_pure (rs := [.tmp 2, .tmp 3]) ?_; (repeat' (first | exact rzl_nil | apply rzl_cons | exact rz_pure rfl | exact rz_ex | exact z_os | apply rz_agg | apply rz_tup | apply rz_clo | apply rz_int | apply rz_bool | apply rz_str | refine z_eq ?_ | apply rz_sl)); all_goals trace_state)
          | false =>
            rw [if_neg (by decide)] at hE
            rw [hE, openR_err (by decide)]
            have hk : (keyM (j.coms.map Com.key)).length < j.coms.length := by
              by_cases h : (keyM (j.coms.map Com.key)).length < j.coms.length
              · exact h
              · exact absurd (hk.2 h) (by decide)
            clear hRi hRR hE
            repeat' (first | refine walk ?_ | (first | (apply opsx_val; apply ex_len_mp; rfl; rfl; rfl; rfl; exact nle rfl)) | ((first | (apply ops_split_t; rfl; rfl; exact nle rfl) | (apply ops_split_f; rfl; rfl; exact nle rfl) | (apply awp_cond; rfl)); all_goals (intro hc; have hp := hc; first | (simp at hp; done) | ((try simp at hp); first | (exfalso; omega) | skip))) | (apply awp_cond_any; rfl))
            all_goals try (exfalso; first | omega | (simp_all; done))
            (refine f_pure (rs := [.tmp 2, .tmp 3]) ?_; (repeat' (first | exact rzl_nil | apply rzl_cons | exact rz_pure rfl | exact rz_ex | exact z_os | apply rz_agg | apply rz_tup | apply rz_clo | apply rz_int | apply rz_bool | apply rz_str | refine z_eq ?_ | apply rz_sl)); all_goals trace_state)
  · rw [if_pos h1] at hE
    rw [hE, openR_err h1]
    generalize treeErr j.base = E at *
    refine acall_intro Tryd.func41 rfl _ Tryd.ntmps41 (Nat.le_of_ble_eq_true rfl) _ Tryd.results41 0 rfl rfl ?_
    repeat' (first | refine walk ?_ | (first | (apply to_call Tryd.func53 rfl rfl; intro hIsFn; refine o_callp hIsFn (hc ..) ?_)) | ((first | (apply ops_split_t; rfl; rfl; exact nle rfl) | (apply ops_split_f; rfl; rfl; exact nle rfl) | (apply awp_cond; rfl)); all_goals (intro hc; have hp := hc; first | (simp at hp; done) | ((try simp at hp); first | (exfalso; omega) | skip))) | (apply awp_cond_any; rfl))
    all_goals try (exfalso; omega)
    all_goals ((refine f_pure (rs := [.tmp 2, .tmp 3]) ?_; (repeat' (first | exact rzl_nil | apply rzl_cons | exact rz_pure rfl | exact rz_ex | exact z_os | apply rz_agg | apply rz_tup | apply rz_clo | apply rz_int | apply rz_bool | apply rz_str | refine z_eq ?_ | apply rz_sl)); all_goals trace_state))
end Go.Proofs.YtkkfilkmkdnboaaDoor
