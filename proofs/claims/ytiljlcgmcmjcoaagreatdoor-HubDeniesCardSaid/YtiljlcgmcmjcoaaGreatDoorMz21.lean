import Derived.Test.YtiljlcgmcmjcoaaGreatDoorMz13
import Derived.Test.YtiljlcgmcmjcoaaGreatDoorMz20
import Derived.Test.YtiljlcgmcmjcoaaGreatDoorMz14
import Derived.Test.YtiljlcgmcmjcoaaGreatDoorMz12
import Derived.Test.YtiljlcgmcmjcoaaGreatDoorMz18
import Derived.Test.YtiljlcgmcmjcoaaGreatDoorMz8
/- Journals in the abstract layer, 1: Open. -/
set_option linter.unusedSimpArgs false
set_option linter.unnecessarySimpa false
set_option linter.unusedVariables false
set_option maxHeartbeats 1000000
namespace Go.Proofs.YtiljlcgmcmjcoaaGreatDoor
open Go.Ab Go.RowKit
set_option maxRecDepth 10000
attribute [local irreducible] Awp Ops OpsX Wanted Red ExOk Go.Ab.Fin ACall Rz RzL RzRows Enters ResOk RenV RenVL ArgV ArgVL

def keepRow (j : Jou) (t : List Ent) : List AV := [entAV j.base, .v (.int .i64 j.first), comAV j.coms, entAV t]
def openR (j : Jou) (r : List Ent × Int) : AV := if r.2 = 0 then .tup [.fp [keepRow j r.1] 0 0, .v (.int .i64 0)] else .tup [.v (.pointer none), .v (.int .i64 r.2)]
def openP (j : Jou) : List Ent × Int :=
  if ¬ treeErr j.base = 0 then ([], treeErr j.base) else if j.first < 1 ∨ 1000000 < j.first then ([], 3) else if 30 < j.coms.length then ([], 2)
  else if ¬ (comsR j.first j.base j.coms).2 = 0 then ([], (comsR j.first j.base j.coms).2) else if keysOk j.coms = true then (nowT j, 0) else ([], 6)
theorem openP_err (j : Jou) : (openP j).2 = jouE j := by
  unfold openP jouE
  (repeat' split) <;> simp_all
theorem openP_now {j : Jou} (h : jouE j = 0) : openP j = (nowT j, 0) := by
  have hR := jright_iff.1 h
  unfold openP
  rw [if_neg (by simp [right_iff.2 hR.base]), if_neg (by have := hR.lo; have := hR.hi; omega), if_neg (by have := hR.len; omega), if_neg (by simp [hR.run]), if_pos (by simp [keysOk, hR.keys])]
theorem openR_err {j : Jou} {e : Int} (h : ¬ e = 0) : openR j ([], e) = .tup [.v (.pointer none), .v (.int .i64 e)] := if_neg h
theorem keysOk_few (l : List Com) : keysOk l = true ↔ ¬ (keyM (l.map Com.key)).length < l.length := by
  have := keyM_few (l.map Com.key)
  rw [List.length_map] at this
  rw [this]
  simp [keysOk]
theorem keyM_succ {l : List Com} {i : Nat} (h : i < l.length) : keyM ((l.take (i + 1)).map Com.key) = mapPut (keyM ((l.take i).map Com.key)) l[i].key yes := by
  rw [List.take_succ_eq_append_getElem h, List.map_append]; exact keyM_snoc _ _
theorem a_open (j : Jou) (hb : JBig j) : AFn C.P 74 [.agg j.row] (openR j (openP j)) := by
  have hc := a_tcheck j.base hb.base
  have hml : (j.coms.map Com.row).length = j.coms.length := List.length_map ..
  have hE : openP j = if ¬ treeErr j.base = 0 then ([], treeErr j.base) else if j.first < 1 ∨ 1000000 < j.first then ([], 3) else if 30 < j.coms.length then ([], 2) else if ¬ (comsR j.first j.base j.coms).2 = 0 then ([], (comsR j.first j.base j.coms).2) else if keysOk j.coms = true then ((comsR j.first j.base j.coms).1, 0) else ([], 6) := rfl
  by_cases h1 : treeErr j.base = 0
  · rw [if_neg (by simp [h1])] at hE
    rw [h1] at hc
    by_cases h2 : j.first < 1 ∨ 1000000 < j.first
    · rw [if_pos h2] at hE
      rw [hE, openR_err (by decide)]
      refine acall_intro Tryz.func74 rfl _ Tryz.ntmps74 (Nat.le_of_ble_eq_true rfl) _ Tryz.results74 0 rfl rfl ?_
      repeat' (first | refine walk ?_ | (first | (apply to_call Tryz.func117 rfl rfl; intro hIsFn; refine o_callp hIsFn (hc ..) ?_)) | ((first | (apply ops_split_t; rfl; rfl; exact nle rfl) | (apply ops_split_f; rfl; rfl; exact nle rfl) | (apply awp_cond; rfl)); all_goals (intro hc; have hp := hc; first | (simp at hp; done) | ((try simp at hp); first | (exfalso; omega) | skip))) | (apply awp_cond_any; rfl))
      all_goals try (exfalso; omega)
      all_goals ((refine f_pure (rs := [.tmp 2, .tmp 3]) ?_; (repeat' (first | exact rzl_nil | apply rzl_cons | exact rz_pure rfl | exact rz_ex | exact z_os | apply rz_agg | apply rz_tup | apply rz_clo | apply rz_int | apply rz_bool | apply rz_str | refine z_eq ?_ | apply rz_sl)); all_goals trace_state))
    · rw [if_neg h2] at hE
      by_cases h3 : 30 < j.coms.length
      · rw [if_pos h3] at hE
        rw [hE, openR_err (by decide)]
        refine acall_intro Tryz.func74 rfl _ Tryz.ntmps74 (Nat.le_of_ble_eq_true rfl) _ Tryz.results74 0 rfl rfl ?_
        repeat' (first | refine walk ?_ | (first | (apply to_call Tryz.func117 rfl rfl; intro hIsFn; refine o_callp hIsFn (hc ..) ?_)) | ((first | (apply ops_split_t; rfl; rfl; exact nle rfl) | (apply ops_split_f; rfl; rfl; exact nle rfl) | (apply awp_cond; rfl)); all_goals (intro hc; have hp := hc; first | (simp at hp; done) | ((try simp at hp); first | (exfalso; omega) | skip))) | (apply awp_cond_any; rfl))
        all_goals try (exfalso; omega)
        all_goals ((refine f_pure (rs := [.tmp 2, .tmp 3]) ?_; (repeat' (first | exact rzl_nil | apply rzl_cons | exact rz_pure rfl | exact rz_ex | exact z_os | apply rz_agg | apply rz_tup | apply rz_clo | apply rz_int | apply rz_bool | apply rz_str | refine z_eq ?_ | apply rz_sl)); all_goals trace_state))
      · rw [if_neg h3] at hE
        have hk := keysOk_few j.coms
        have hR := right_iff.1 h1
        generalize hRR : comsR j.first j.base j.coms = R at *
        generalize openP j = O at *
        generalize keysOk j.coms = K at *
        refine acall_intro Tryz.func74 rfl _ Tryz.ntmps74 (Nat.le_of_ble_eq_true rfl) _ Tryz.results74 0 rfl rfl ?_
        repeat' (first | refine walk ?_ | (first | (apply to_call Tryz.func117 rfl rfl; intro hIsFn; refine o_callp hIsFn (hc ..) ?_) | (apply opsx_new; apply ex_makeMap; exact nle rfl)) | ((first | (apply ops_split_t; rfl; rfl; exact nle rfl) | (apply ops_split_f; rfl; rfl; exact nle rfl) | (apply awp_cond; rfl)); all_goals (intro hc; have hp := hc; first | (simp at hp; done) | ((try simp at hp); first | (exfalso; omega) | skip))) | (apply awp_cond_any; rfl))
        all_goals try (exfalso; omega)
        (refine Awp.red (red_ren (τ := ⟨[(1, .op 0 0 0), (5, .op 1 0 0), (6, .mp 2), (39, comAV j.coms), (40, .v (.int .i64 j.coms.length)), (41, .v (.int .i64 ((0 : Nat) : Int)))], [(0, .own false 3 [j.row]), (1, .own false 4 [keepRow j j.base]), (2, .mp (keyM ((j.coms.take 0).map Com.key)))], 3⟩) [(0, 0), (1, 1), (2, 2)] rfl ?gts2 ?ghs2) ?gmain2; (case gts2 => (repeat (first | exact tsok_nil | refine p_pure ?_ | refine p_op ?_ | refine p_osr ?_ | refine p_mp ?_ | refine p_osx ?_ ?_ | refine p_eq ?_ ?_)); all_goals (first | (rw [List.length_map]; done) | rfl | exact nofun)); (case ghs2 => (repeat (first | exact hsok_nil | refine q_r ?_ | refine q_mp ?_ ?_ ?_ | refine q_idx ?_ ?_)); all_goals (first | (rw [List.length_map]; done) | rfl | exact nofun)))
        refine awp_loop (fun n σ => ∃ (i : Nat) (u : List Ent), i ≤ j.coms.length ∧ n = j.coms.length - i ∧ (R = comsR (j.first + i) u (j.coms.drop i) ∧ Right u) ∧ σ = ⟨[(1, .op 0 0 0), (5, .op 1 0 0), (6, .mp 2), (39, comAV j.coms), (40, .v (.int .i64 j.coms.length)), (41, .v (.int .i64 (i : Int)))], [(0, .own false 3 [j.row]), (1, .own false 4 [keepRow j u]), (2, .mp (keyM ((j.coms.take i).map Com.key)))], 3⟩) j.coms.length ⟨0, j.base, Nat.zero_le _, rfl, ⟨by rw [← hRR]; simp, hR⟩, rfl⟩ ?_
        rintro n σ ⟨i, u, hi, rfl, ⟨hRi, hRu⟩, rfl⟩
        by_cases hlt : i < j.coms.length
        · have hr := getRow (f := Com.row) hlt
          have hcs := hb.coms.each j.coms[i] (List.getElem_mem _)
          have hkey := a_isKey j.coms[i].key
          have hall := a_all u j.coms[i].chs j.coms[i].num hRu.big hcs.chs
          have hkm := keyM_succ hlt
          have hkp := keyM_pure ((j.coms.take (i + 1)).map Com.key)
          have hcl : (j.coms[i].chs.map Chg.row).length = j.coms[i].chs.length := List.length_map ..
          have hnil : j.coms[i].chs = [] ↔ j.coms[i].chs.length = 0 := List.length_eq_zero_iff.symm
          rw [comsR_drop hlt] at hRi
          by_cases hce : comErr (j.first + i) j.coms[i] = 0
          · obtain ⟨e1, e2, e3, e4⟩ := comErr_zero hce
            rw [if_neg (by simp [hce])] at hRi
            rw [e3] at hkey
            have hRn := @allT_right j.coms[i].num u j.coms[i].chs hRu
            generalize allT j.coms[i].num u j.coms[i].chs = T at *
            obtain ⟨t2, n2, er⟩ := T
            by_cases hz : er = 0
            · subst hz
              rw [if_neg (by simp)] at hRi
              have hRn := hRn rfl
              have hRi2 : R = comsR (j.first + ((i + 1 : Nat) : Int)) t2 (j.coms.drop (i + 1)) := by rw [hRi]; congr 1; omega
              clear hRi hRR hE hce e3
              repeat' (first | refine walk ?_ | (first | (apply to_call Tryz.func118 rfl rfl; intro hIsFn; refine o_callf hIsFn (hkey ..) ?_; skip) | (apply to_call Tryz.func119 rfl rfl; intro hIsFn; refine o_callp hIsFn (hall ..) ?_) | (apply opsx_store; apply ex_mapUpdate; rfl; rfl; rfl; rfl; rfl; rfl; rfl; rfl)) | ((first | (apply ops_split_t; rfl; rfl; exact nle rfl) | (apply ops_split_f; rfl; rfl; exact nle rfl) | (apply awp_cond; rfl)); all_goals (intro hc; have hp := hc; first | (simp at hp; done) | ((try simp at hp); first | (exfalso; omega) | skip))) | (apply awp_cond_any; rfl))
              all_goals try (exfalso; first | omega | (simp_all; done))
              refine ⟨j.coms.length - (i + 1), _, by omega, red_ren (τ := ⟨[(1, .op 0 0 0), (5, .op 1 0 0), (6, .mp 2), (39, comAV j.coms), (40, .v (.int .i64 j.coms.length)), (41, .v (.int .i64 ((i + 1 : Nat) : Int)))], [(0, .own false 3 [j.row]), (1, .own false 4 [keepRow j t2]), (2, .mp (keyM ((j.coms.take (i + 1)).map Com.key)))], 3⟩) [(0, 0), (1, 1), (2, 2)] rfl ?gts ?ghs, i + 1, t2, by omega, rfl, ⟨hRi2, hRn⟩, rfl⟩; (case gts => (repeat (first | exact tsok_nil | refine p_pure ?_ | refine p_op ?_ | refine p_osr ?_ | refine p_mp ?_ | refine p_osx ?_ ?_ | refine p_eq ?_ ?_)); all_goals (first | (rw [hkm]; rfl) | exact hkp | rfl)); (case ghs => (repeat (first | exact hsok_nil | refine q_r ?_ | refine q_mp ?_ ?_ ?_ | refine q_idx ?_ ?_)); all_goals (first | (rw [hkm]; rfl) | exact hkp | rfl))
            · rw [if_pos hz] at hRi
              rw [hRi, if_pos hz] at hE
              rw [hE, openR_err hz]
              clear hRi hRR hE hce e3
              repeat' (first | refine walk ?_ | (first | (apply to_call Tryz.func118 rfl rfl; intro hIsFn; refine o_callf hIsFn (hkey ..) ?_; skip) | (apply to_call Tryz.func119 rfl rfl; intro hIsFn; refine o_callp hIsFn (hall ..) ?_)) | ((first | (apply ops_split_t; rfl; rfl; exact nle rfl) | (apply ops_split_f; rfl; rfl; exact nle rfl) | (apply awp_cond; rfl)); all_goals (intro hc; have hp := hc; first | (simp at hp; done) | ((try simp at hp); first | (exfalso; omega) | skip))) | (apply awp_cond_any; rfl))
              all_goals try (exfalso; first | omega | (simp_all; done))
              (refine f_pure (rs := [.tmp 2, .tmp 3]) ?_; (repeat' (first | exact rzl_nil | apply rzl_cons | exact rz_pure rfl | exact rz_ex | exact z_os | apply rz_agg | apply rz_tup | apply rz_clo | apply rz_int | apply rz_bool | apply rz_str | refine z_eq ?_ | apply rz_sl)); all_goals trace_state)
          · rw [if_pos hce] at hRi
            rw [hRi, if_pos hce] at hE
            rw [hE, openR_err hce]
            clear hRi hRR hE hk hkm hkp hall hRu
            have hcv : comErr (j.first + i) j.coms[i] = if ¬ j.coms[i].num = j.first + i then 4 else if 1000000 < j.coms[i].num then 3 else if isKey j.coms[i].key = false ∨ j.coms[i].chs = [] then 1 else 0 := rfl
            generalize isKey j.coms[i].key = KK at *
            generalize hCE : comErr (j.first + i) j.coms[i] = CE at *
            clear hCE
            by_cases n1 : j.coms[i].num = j.first + i
            · rw [if_neg (by simp [n1])] at hcv
              by_cases n2 : 1000000 < j.coms[i].num
              · rw [if_pos n2] at hcv
                subst hcv
                (repeat' (first | refine walk ?_ | (first | (apply to_call Tryz.func118 rfl rfl; intro hIsFn; refine o_callf hIsFn (hkey ..) ?_; skip)) | ((first | (apply ops_split_t; rfl; rfl; exact nle rfl) | (apply ops_split_f; rfl; rfl; exact nle rfl) | (apply awp_cond; rfl)); all_goals (intro hc; have hp := hc; first | (simp at hp; done) | ((try simp at hp); first | (exfalso; omega) | skip))) | (apply awp_cond_any; rfl)))
                (all_goals try (exfalso; first | omega | contradiction))
                (all_goals ((refine f_pure (rs := [.tmp 2, .tmp 3]) ?_; (repeat' (first | exact rzl_nil | apply rzl_cons | exact rz_pure rfl | exact rz_ex | exact z_os | apply rz_agg | apply rz_tup | apply rz_clo | apply rz_int | apply rz_bool | apply rz_str | refine z_eq ?_ | apply rz_sl)); all_goals trace_state)))
              · rw [if_neg n2] at hcv
                have hz : KK = false ∨ j.coms[i].chs.length = 0 := by
                  by_cases hq : KK = false ∨ j.coms[i].chs = []
                  · exact hq.imp id hnil.1
                  · rw [if_neg hq] at hcv; exact absurd hcv hce
                obtain rfl : CE = 1 := by rw [hcv, if_pos (hz.imp id hnil.2)]
                clear hcv hce
                cases KK with
                | false =>
                  (repeat' (first | refine walk ?_ | (first | (apply to_call Tryz.func118 rfl rfl; intro hIsFn; refine o_callf hIsFn (hkey ..) ?_; skip)) | ((first | (apply ops_split_t; rfl; rfl; exact nle rfl) | (apply ops_split_f; rfl; rfl; exact nle rfl) | (apply awp_cond; rfl)); all_goals (intro hc; have hp := hc; first | (simp at hp; done) | ((try simp at hp); first | (exfalso; omega) | skip))) | (apply awp_cond_any; rfl)))
                  (all_goals try (exfalso; first | omega | contradiction))
                  (all_goals ((refine f_pure (rs := [.tmp 2, .tmp 3]) ?_; (repeat' (first | exact rzl_nil | apply rzl_cons | exact rz_pure rfl | exact rz_ex | exact z_os | apply rz_agg | apply rz_tup | apply rz_clo | apply rz_int | apply rz_bool | apply rz_str | refine z_eq ?_ | apply rz_sl)); all_goals trace_state)))
                | true =>
                  have hz : j.coms[i].chs.length = 0 := hz.resolve_left (by decide)
                  have hz2 := hnil.2 hz
                  (repeat' (first | refine walk ?_ | (first | (apply to_call Tryz.func118 rfl rfl; intro hIsFn; refine o_callf hIsFn (hkey ..) ?_; skip)) | ((first | (apply ops_split_t; rfl; rfl; exact nle rfl) | (apply ops_split_f; rfl; rfl; exact nle rfl) | (apply awp_cond; rfl)); all_goals (intro hc; have hp := hc; first | (simp at hp; done) | ((try simp at hp); first | (exfalso; omega) | skip))) | (apply awp_cond_any; rfl)))
                  (all_goals try (exfalso; first | omega | contradiction))
                  (all_goals ((refine f_pure (rs := [.tmp 2, .tmp 3]) ?_; (repeat' (first | exact rzl_nil | apply rzl_cons | exact rz_pure rfl | exact rz_ex | exact z_os | apply rz_agg | apply rz_tup | apply rz_clo | apply rz_int | apply rz_bool | apply rz_str | refine z_eq ?_ | apply rz_sl)); all_goals trace_state)))
            · rw [if_pos n1] at hcv
              subst hcv
              (repeat' (first | refine walk ?_ | (first | (apply to_call Tryz.func118 rfl rfl; intro hIsFn; refine o_callf hIsFn (hkey ..) ?_; skip)) | ((first | (apply ops_split_t; rfl; rfl; exact nle rfl) | (apply ops_split_f; rfl; rfl; exact nle rfl) | (apply awp_cond; rfl)); all_goals (intro hc; have hp := hc; first | (simp at hp; done) | ((try simp at hp); first | (exfalso; omega) | skip))) | (apply awp_cond_any; rfl)))
              (all_goals try (exfalso; first | omega | contradiction))
              (all_goals ((refine f_pure (rs := [.tmp 2, .tmp 3]) ?_; (repeat' (first | exact rzl_nil | apply rzl_cons | exact rz_pure rfl | exact rz_ex | exact z_os | apply rz_agg | apply rz_tup | apply rz_clo | apply rz_int | apply rz_bool | apply rz_str | refine z_eq ?_ | apply rz_sl)); all_goals trace_state)))
        · obtain rfl : i = j.coms.length := by omega
          rw [List.drop_length] at hRi
          rw [hRi, if_neg (by simp [comsR])] at hE
          rw [List.take_length]
          have hE : O = if K = true then (u, 0) else ([], 6) := hE
          (refine Awp.red (red_freeze 1 rfl ?_) ?_; (intro row hrow; obtain rfl := List.mem_singleton.1 hrow; rfl); refine Awp.red (red_fp 5 1 rfl rfl (Nat.le_of_ble_eq_true rfl)) ?_)
          cases K with
          | true =>
            rw [if_pos rfl] at hE
            have hk := hk.1 rfl
            rw [hE]
            clear hRi hRR hE
            repeat' (first | refine walk ?_ | (first | (apply opsx_val; apply ex_len_mp; rfl; rfl; rfl; rfl; exact nle rfl)) | ((first | (apply ops_split_t; rfl; rfl; exact nle rfl) | (apply ops_split_f; rfl; rfl; exact nle rfl) | (apply awp_cond; rfl)); all_goals (intro hc; have hp := hc; first | (simp at hp; done) | ((try simp at hp); first | (exfalso; omega) | skip))) | (apply awp_cond_any; rfl))
            all_goals try (exfalso; first | omega | (simp_all; done))
            (refine f_pure (rs := [.tmp 2, .tmp 3]) ?_; (repeat' (first | exact rzl_nil | apply rzl_cons | exact rz_pure rfl | exact rz_ex | exact z_os | apply rz_agg | apply rz_tup | apply rz_clo | apply rz_int | apply rz_bool | apply rz_str | refine z_eq ?_ | apply rz_sl)); all_goals trace_state)
          | false =>
            rw [if_neg (by decide)] at hE
            rw [hE, openR_err (by decide)]
            have hk : (keyM (j.coms.map Com.key)).length < j.coms.length := by
              by_cases h : (keyM (j.coms.map Com.key)).length < j.coms.length
              · exact h
              · exact absurd (hk.2 h) (by decide)
            clear hRi hRR hE
            repeat' (first | refine walk ?_ | (first | (apply opsx_val; apply ex_len_mp; rfl; rfl; rfl; rfl; exact nle rfl)) | ((first | (apply ops_split_t; rfl; rfl; exact nle rfl) | (apply ops_split_f; rfl; rfl; exact nle rfl) | (apply awp_cond; rfl)); all_goals (intro hc; have hp := hc; first | (simp at hp; done) | ((try simp at hp); first | (exfalso; omega) | skip))) | (apply awp_cond_any; rfl))
            all_goals try (exfalso; first | omega | (simp_all; done))
            (refine f_pure (rs := [.tmp 2, .tmp 3]) ?_; (repeat' (first | exact rzl_nil | apply rzl_cons | exact rz_pure rfl | exact rz_ex | exact z_os | apply rz_agg | apply rz_tup | apply rz_clo | apply rz_int | apply rz_bool | apply rz_str | refine z_eq ?_ | apply rz_sl)); all_goals trace_state)
  · rw [if_pos h1] at hE
    rw [hE, openR_err h1]
    generalize treeErr j.base = E at *
    refine acall_intro Tryz.func74 rfl _ Tryz.ntmps74 (Nat.le_of_ble_eq_true rfl) _ Tryz.results74 0 rfl rfl ?_
    repeat' (first | refine walk ?_ | (first | (apply to_call Tryz.func117 rfl rfl; intro hIsFn; refine o_callp hIsFn (hc ..) ?_)) | ((first | (apply ops_split_t; rfl; rfl; exact nle rfl) | (apply ops_split_f; rfl; rfl; exact nle rfl) | (apply awp_cond; rfl)); all_goals (intro hc; have hp := hc; first | (simp at hp; done) | ((try simp at hp); first | (exfalso; omega) | skip))) | (apply awp_cond_any; rfl))
    all_goals try (exfalso; omega)
    all_goals ((refine f_pure (rs := [.tmp 2, .tmp 3]) ?_; (repeat' (first | exact rzl_nil | apply rzl_cons | exact rz_pure rfl | exact rz_ex | exact z_os | apply rz_agg | apply rz_tup | apply rz_clo | apply rz_int | apply rz_bool | apply rz_str | refine z_eq ?_ | apply rz_sl)); all_goals trace_state))
end Go.Proofs.YtiljlcgmcmjcoaaGreatDoor

/- Journals in the abstract layer, 2: the reference's OpenJournal. -/
set_option linter.unusedSimpArgs false
set_option linter.unnecessarySimpa false
set_option linter.unusedVariables false
set_option maxHeartbeats 1000000
namespace Go.Proofs.YtiljlcgmcmjcoaaGreatDoor
open Go.Ab Go.RowKit
set_option maxRecDepth 10000
attribute [local irreducible] Awp Ops OpsX Wanted Red ExOk Go.Ab.Fin ACall Rz RzL RzRows Enters ResOk RenV RenVL ArgV ArgVL

end Go.Proofs.YtiljlcgmcmjcoaaGreatDoor

/- Journals in the abstract layer, 7: of the reference: CheckJournal, TreeOf, SameCommits, SameJournal, SamePage. -/
set_option linter.unusedSimpArgs false
set_option linter.unnecessarySimpa false
set_option linter.unusedVariables false
set_option maxHeartbeats 1000000
namespace Go.Proofs.YtiljlcgmcmjcoaaGreatDoor
open Go.Ab Go.RowKit
set_option maxRecDepth 10000
attribute [local irreducible] Awp Ops OpsX Wanted Red ExOk Go.Ab.Fin ACall Rz RzL RzRows Enters ResOk RenV RenVL ArgV ArgVL

end Go.Proofs.YtiljlcgmcmjcoaaGreatDoor

/- Journals in the abstract layer, 3: copies, the last number, Check, Tree. -/
set_option linter.unusedSimpArgs false
set_option linter.unnecessarySimpa false
set_option linter.unusedVariables false
namespace Go.Ab
theorem z_osd {h : Nat → HB} {n off len : Nat} {ex : Bool} {k : Nat} {rows rows' : List (List AV)} (he : (rows.drop off).take len = rows') (hp : ∀ row, row ∈ rows' → AV.pure.pureL row = true) (hl : off + len ≤ rows.length) (hn : h n = .own ex k rows := by rfl) : Rz h (.os n off len) (.sl false rows') :=
  by subst he; exact rz_os hn hl (rzrows_pure hp)
theorem set_same {α β : Type} {f : α → β} {l : List α} {i : Nat} (h : i < l.length) : (l.map f).set i (f l[i]) = l.map f := by
  rw [← List.map_set, List.set_getElem_self]
end Go.Ab
set_option maxHeartbeats 1000000
namespace Go.Proofs.YtiljlcgmcmjcoaaGreatDoor
open Go.Ab Go.RowKit
set_option maxRecDepth 10000
attribute [local irreducible] Awp Ops OpsX Wanted Red ExOk Go.Ab.Fin ACall Rz RzL RzRows Enters ResOk RenV RenVL ArgV ArgVL

theorem a_cloneM (l : List Com) (hl : l.length ≤ 1000000) :
    ACall C.P 121 [comAV l] [] (.os 0 0 l.length) [.own false 3 (l.map Com.row)] := by
  by_cases h0 : l = []
  · subst h0
    refine acall_intro Tryz.func121 rfl _ Tryz.ntmps121 (Nat.le_of_ble_eq_true rfl) _ Tryz.results121 0 rfl rfl ?_
    repeat' (first | refine walk ?_ | (first | (refine o_fzl ?_) | (refine o_appn ?_) | (refine o_isnil ?_)) | ((first | (apply awp_cond; rfl)); all_goals (intro hc; have hp := hc; first | (simp at hp; done) | ((try simp at hp); first | (exfalso; omega) | skip))) | (apply awp_cond_any; rfl))
    · (refine fin_red (C := C) (red_nil (C := C) 2 3 rfl (Nat.zero_le _)) ?_)
      (apply fin_ownr (rs := [.tmp 2]) [(0, 0)] 1; (case hr => (repeat (first | exact resok_nil | (apply resok_tmp; rfl) | (apply resok_cell; rfl; rfl; rfl; rfl; rfl)))); (case hL => rfl); (case hh => (repeat (first | exact hsok_nil | refine q_id ?_ | refine q_idx ?_ ?_)); all_goals skip); (case hi => first | exact (rfl : _ = ([] : List (Nat × Nat))) | exact (rfl : _ = [((0 : Nat), (0 : Nat))]) | exact (rfl : _ = [((0 : Nat), (0 : Nat)), (1, 1)])); (case hz => first | rfl | (simp [pack, AV.ren, AV.ren.renL, lookN, getT, enumT]; done) | (simp [pack, AV.ren, AV.ren.renL, lookN, getT, enumT, *]; done) | skip))
    · (apply fin_ownr (rs := [.tmp 2]) [(0, 0)] 1; (case hr => (repeat (first | exact resok_nil | (apply resok_tmp; rfl) | (apply resok_cell; rfl; rfl; rfl; rfl; rfl)))); (case hL => rfl); (case hh => (repeat (first | exact hsok_nil | refine q_id ?_ | refine q_idx ?_ ?_)); all_goals skip); (case hi => first | exact (rfl : _ = ([] : List (Nat × Nat))) | exact (rfl : _ = [((0 : Nat), (0 : Nat))]) | exact (rfl : _ = [((0 : Nat), (0 : Nat)), (1, 1)])); (case hz => first | rfl | (simp [pack, AV.ren, AV.ren.renL, lookN, getT, enumT]; done) | (simp [pack, AV.ren, AV.ren.renL, lookN, getT, enumT, *]; done) | skip))
  · refine acall_intro Tryz.func121 rfl _ Tryz.ntmps121 (Nat.le_of_ble_eq_true rfl) _ Tryz.results121 0 rfl rfl ?_
    repeat' (first | refine walk ?_ | (first | (refine o_fzl ?_) | (refine o_appn ?_) | (apply opsx_val; apply ex_notnil; rfl; exact (fun h => h0 (List.map_eq_nil_iff.1 h)); rfl; rfl; (first | exact .inl rfl | exact .inr rfl); exact nle rfl)) | ((first | (apply awp_cond; rfl)); all_goals (intro hc; have hp := hc; first | (simp at hp; done) | ((try simp at hp); first | (exfalso; omega) | skip))) | (apply awp_cond_any; rfl))
    (apply fin_ownr (rs := [.tmp 2]) [(0, 0)] 1; (case hr => (repeat (first | exact resok_nil | (apply resok_tmp; rfl) | (apply resok_cell; rfl; rfl; rfl; rfl; rfl)))); (case hL => rfl); (case hh => (repeat (first | exact hsok_nil | refine q_id ?_ | refine q_idx ?_ ?_)); all_goals skip); (case hi => first | exact (rfl : _ = ([] : List (Nat × Nat))) | exact (rfl : _ = [((0 : Nat), (0 : Nat))]) | exact (rfl : _ = [((0 : Nat), (0 : Nat)), (1, 1)])); (case hz => first | rfl | (simp [pack, AV.ren, AV.ren.renL, lookN, getT, enumT]; done) | (simp [pack, AV.ren, AV.ren.renL, lookN, getT, enumT, *]; done) | skip))
theorem a_cloned (l : List Com) (hl : l.length ≤ 1000000) (hc : ∀ c, c ∈ l → c.chs.length ≤ 1000000) :
    ACall C.P 153 [comAV l] [] (.os 0 0 l.length) [.own false 3 (l.map Com.row)] := by
  have h1 := a_cloneM l hl
  refine acall_intro Tryz.func153 rfl _ Tryz.ntmps153 (Nat.le_of_ble_eq_true rfl) _ Tryz.results153 0 rfl rfl ?_
  repeat' (first | refine walk ?_ | (first | (apply to_call Tryz.func121 rfl rfl; intro hIsFn; refine o_callo ([]) hIsFn (h1 ..) ?_)) | ((first | (apply awp_cond; rfl)); all_goals (intro hc; have hp := hc; first | (simp at hp; done) | ((try simp at hp); first | (exfalso; omega) | skip))) | (apply awp_cond_any; rfl))
  all_goals try (exfalso; omega)
  (refine Awp.red (red_ren (τ := ⟨[(0, .os 0 0 l.length), (7, .os 0 0 l.length), (8, .v (.int .i64 l.length)), (9, .v (.int .i64 ((0 : Nat) : Int)))], [(0, .own false 3 (l.map Com.row))], 1⟩) [(0, 0)] rfl ?gts ?ghs) ?gmain; (case gts => (repeat (first | exact tsok_nil | refine p_pure ?_ | refine p_op ?_ | refine p_os ?_ | refine p_eq ?_ ?_))); (case ghs => (repeat (first | exact hsok_nil | refine q_id ?_ | refine q_idx ?_ ?_))))
  refine awp_loop (fun n σ => ∃ i : Nat, i ≤ l.length ∧ n = l.length - i ∧ (True) ∧ σ = ⟨[(0, .os 0 0 l.length), (7, .os 0 0 l.length), (8, .v (.int .i64 l.length)), (9, .v (.int .i64 (i : Int)))], [(0, .own false 3 (l.map Com.row))], 1⟩) l.length ⟨0, Nat.zero_le _, rfl, trivial, rfl⟩ ?_
  rintro n σ ⟨i, hi, rfl, -, rfl⟩
  by_cases hlt : i < l.length
  · have hr := getRow (f := Com.row) hlt
    have hcc := a_cloneCF l[i].chs (hc _ (List.getElem_mem _))
    have hss := set_same (f := Com.row) hlt
    repeat' (first | refine walk ?_ | (first | (refine o_ixo ?_) | (apply to_call Tryz.func122 rfl rfl; intro hIsFn; refine o_callp hIsFn (hcc ..) ?_)) | ((first | (apply awp_cond; rfl)); all_goals (intro hc; have hp := hc; first | (simp at hp; done) | ((try simp at hp); first | (exfalso; omega) | skip))) | (apply awp_cond_any; rfl))
    all_goals try (exfalso; omega)
    refine ⟨l.length - (i + 1), _, by omega, red_ren (τ := ⟨[(0, .os 0 0 l.length), (7, .os 0 0 l.length), (8, .v (.int .i64 l.length)), (9, .v (.int .i64 ((i + 1 : Nat) : Int)))], [(0, .own false 3 (l.map Com.row))], 1⟩) [(0, 0)] rfl ?gts ?ghs, i + 1, by omega, rfl, trivial, rfl⟩; (case gts => (repeat (first | exact tsok_nil | refine p_pure ?_ | refine p_op ?_ | refine p_os ?_ | refine p_eq ?_ ?_)); all_goals exact hss); (case ghs => (repeat (first | exact hsok_nil | refine q_id ?_ | refine q_idx ?_ ?_)); all_goals exact hss)
  obtain rfl : i = l.length := by omega
  repeat' (first | refine walk ?_ | fail | ((first | (apply awp_cond; rfl)); all_goals (intro hc; have hp := hc; first | (simp at hp; done) | ((try simp at hp); first | (exfalso; omega) | skip))) | (apply awp_cond_any; rfl))
  all_goals try (exfalso; omega)
  (apply fin_ownr (rs := [.tmp 2]) [(0, 0)] 1; (case hr => (repeat (first | exact resok_nil | (apply resok_tmp; rfl) | (apply resok_cell; rfl; rfl; rfl; rfl; rfl)))); (case hL => rfl); (case hh => (repeat (first | exact hsok_nil | refine q_id ?_ | refine q_idx ?_ ?_)); all_goals trace_state); (case hi => first | exact (rfl : _ = ([] : List (Nat × Nat))) | exact (rfl : _ = [((0 : Nat), (0 : Nat))]) | exact (rfl : _ = [((0 : Nat), (0 : Nat)), (1, 1)])); (case hz => first | rfl | (simp [pack, AV.ren, AV.ren.renL, lookN, getT, enumT]; done) | (simp [pack, AV.ren, AV.ren.renL, lookN, getT, enumT, *]; done) | trace_state))
theorem a_jlast (j : Jou) (t : List Ent) (h : JRight j) : AFn C.P 152 [.fp [keepRow j t] 0 0] (.v (.int .i64 (lastN j))) := by
  have h1 := h.lo
  have h2 := h.hi
  have h3 := h.len
  have hml : (j.coms.map Com.row).length = j.coms.length := List.length_map ..
  refine acall_intro Tryz.func152 rfl _ Tryz.ntmps152 (Nat.le_of_ble_eq_true rfl) _ Tryz.results152 0 rfl rfl ?_
  repeat' (first | refine walk ?_ | fail | ((first | (apply awp_cond; rfl)); all_goals (intro hc; have hp := hc; first | (simp at hp; done) | ((try simp at hp); first | (exfalso; omega) | skip))) | (apply awp_cond_any; rfl))
  all_goals try (exfalso; omega)
  apply fin_int
  rfl
  unfold lastN
  rw [hml]
theorem a_jcheck (j : Jou) (hb : JBig j) : AFn C.P 38 [.agg j.row] (.v (.int .i64 (jouE j))) := by
  have h1 := a_open j hb
  have h2 := openP_err j
  by_cases hz : jouE j = 0
  · rw [openP_now hz] at h1
    rw [hz]
    refine acall_intro Tryz.func38 rfl _ Tryz.ntmps38 (Nat.le_of_ble_eq_true rfl) _ Tryz.results38 0 rfl rfl ?_
    repeat' (first | refine walk ?_ | (first | (apply to_call Tryz.func74 rfl rfl; intro hIsFn; refine o_callp hIsFn (h1 ..) ?_)) | ((first | (apply awp_cond; rfl)); all_goals (intro hc; have hp := hc; first | (simp at hp; done) | ((try simp at hp); first | (exfalso; omega) | skip))) | (apply awp_cond_any; rfl))
    apply fin_int
    rfl
    rfl
  · have h3 : openR j (openP j) = .tup [.v (.pointer none), .v (.int .i64 (jouE j))] := by unfold openR; rw [h2, if_neg hz]
    rw [h3] at h1
    refine acall_intro Tryz.func38 rfl _ Tryz.ntmps38 (Nat.le_of_ble_eq_true rfl) _ Tryz.results38 0 rfl rfl ?_
    repeat' (first | refine walk ?_ | (first | (apply to_call Tryz.func74 rfl rfl; intro hIsFn; refine o_callp hIsFn (h1 ..) ?_)) | ((first | (apply awp_cond; rfl)); all_goals (intro hc; have hp := hc; first | (simp at hp; done) | ((try simp at hp); first | (exfalso; omega) | skip))) | (apply awp_cond_any; rfl))
    apply fin_int
    rfl
    rfl
def treeJ (j : Jou) : List Ent × Int := if jouE j = 0 then (nowT j, 0) else ([], jouE j)
theorem open_bad {j : Jou} (h : ¬ jouE j = 0) : openR j (openP j) = .tup [.v (.pointer none), .v (.int .i64 (jouE j))] := by unfold openR; rw [openP_err, if_neg h]
theorem open_ok {j : Jou} (h : jouE j = 0) : openR j (openP j) = .tup [.fp [keepRow j (nowT j)] 0 0, .v (.int .i64 0)] := by rw [openP_now h]; rfl
theorem a_jtree (j : Jou) (hb : JBig j) : AFn C.P 59 [.agg j.row] (.tup [entAV (treeJ j).1, .v (.int .i64 (treeJ j).2)]) := by
  have h1 := a_open j hb
  by_cases hz : jouE j = 0
  · rw [open_ok hz] at h1
    have hR := (jright_iff.1 hz).now
    have h2 := a_cloneEF (nowT j) (by have := hR.len; omega)
    unfold treeJ
    rw [if_pos hz]
    generalize nowT j = U at *
    refine acall_intro Tryz.func59 rfl _ Tryz.ntmps59 (Nat.le_of_ble_eq_true rfl) _ Tryz.results59 0 rfl rfl ?_
    repeat' (first | refine walk ?_ | (first | (apply to_call Tryz.func74 rfl rfl; intro hIsFn; refine o_callp hIsFn (h1 ..) ?_) | (apply to_call Tryz.func101 rfl rfl; intro hIsFn; refine o_callp hIsFn (h2 ..) ?_)) | ((first | (apply awp_cond; rfl)); all_goals (intro hc; have hp := hc; first | (simp at hp; done) | ((try simp at hp); first | (exfalso; omega) | skip))) | (apply awp_cond_any; rfl))
    all_goals try (exfalso; omega)
    (refine f_pure (rs := [.tmp 2, .tmp 3]) ?_; (repeat' (first | exact rzl_nil | apply rzl_cons | exact rz_pure rfl | exact rz_ex | exact z_os | apply rz_agg | apply rz_tup | apply rz_clo | apply rz_int | apply rz_bool | apply rz_str | refine z_eq ?_ | apply rz_sl)); all_goals trace_state)
  · rw [open_bad hz] at h1
    unfold treeJ
    rw [if_neg hz]
    generalize jouE j = E at *
    refine acall_intro Tryz.func59 rfl _ Tryz.ntmps59 (Nat.le_of_ble_eq_true rfl) _ Tryz.results59 0 rfl rfl ?_
    repeat' (first | refine walk ?_ | (first | (apply to_call Tryz.func74 rfl rfl; intro hIsFn; refine o_callp hIsFn (h1 ..) ?_)) | ((first | (apply awp_cond; rfl)); all_goals (intro hc; have hp := hc; first | (simp at hp; done) | ((try simp at hp); first | (exfalso; omega) | skip))) | (apply awp_cond_any; rfl))
    all_goals try (exfalso; omega)
    (refine f_pure (rs := [.tmp 2, .tmp 3]) ?_; (repeat' (first | exact rzl_nil | apply rzl_cons | exact rz_pure rfl | exact rz_ex | exact z_os | apply rz_agg | apply rz_tup | apply rz_clo | apply rz_int | apply rz_bool | apply rz_str | refine z_eq ?_ | apply rz_sl)); all_goals trace_state)
end Go.Proofs.YtiljlcgmcmjcoaaGreatDoor

/- Journals in the abstract layer, 6: Follow. -/
set_option linter.unusedSimpArgs false
set_option linter.unnecessarySimpa false
set_option linter.unusedVariables false
set_option maxHeartbeats 1000000
namespace Go.Proofs.YtiljlcgmcmjcoaaGreatDoor
open Go.Ab Go.RowKit
set_option maxRecDepth 10000
attribute [local irreducible] Awp Ops OpsX Wanted Red ExOk Go.Ab.Fin ACall Rz RzL RzRows Enters ResOk RenV RenVL ArgV ArgVL

end Go.Proofs.YtiljlcgmcmjcoaaGreatDoor

/- Journals in the abstract layer, 9: the reference's FollowOf. -/
set_option linter.unusedSimpArgs false
set_option linter.unnecessarySimpa false
set_option linter.unusedVariables false
set_option maxHeartbeats 1000000
namespace Go.Proofs.YtiljlcgmcmjcoaaGreatDoor
open Go.Ab Go.RowKit
set_option maxRecDepth 10000
attribute [local irreducible] Awp Ops OpsX Wanted Red ExOk Go.Ab.Fin ACall Rz RzL RzRows Enters ResOk RenV RenVL ArgV ArgVL

end Go.Proofs.YtiljlcgmcmjcoaaGreatDoor

/- Hubs in the abstract layer, 2: Check. -/
set_option linter.unusedSimpArgs false
set_option linter.unnecessarySimpa false
set_option linter.unusedVariables false
set_option maxHeartbeats 1000000
namespace Go.Proofs.YtiljlcgmcmjcoaaGreatDoor
open Go.Ab Go.RowKit
set_option maxRecDepth 10000
attribute [local irreducible] Awp Ops OpsX Wanted Red ExOk Go.Ab.Fin ACall Rz RzL RzRows Enters ResOk RenV RenVL ArgV ArgVL
theorem leq_fol (a b : Fol) : (Op.bytesLess b.name a.name || decide (b.name = a.name)) = !folLt a b := by
  unfold folLt
  rcases bl_tri a.name b.name with ⟨h1, h2, h3⟩ | ⟨h1, h2, h3⟩ | ⟨h1, h2, h3⟩
  · have h4 : ¬ b.name = a.name := fun e => h3 e.symm
    simp [h1, h2, h4]
  · simp [h1, bl_irr]
  · simp [h1, h2]
theorem hubErr_now {h : Hub} (hn : withinB h.now 0 1099511627776 = false) : hubErr h = 3 := by unfold hubErr; rw [if_pos hn]
theorem hubErr_many {h : Hub} (hn : withinB h.now 0 1099511627776 = true) (h8 : 8 < h.fols.length) : hubErr h = 2 := by unfold hubErr; rw [if_neg (by rw [hn]; decide), if_pos h8]
theorem hubErr_E {h : Hub} (hn : withinB h.now 0 1099511627776 = true) (h8 : ¬ 8 < h.fols.length) : hubErr h = if ¬ firstErr folErr h.fols = 0 then firstErr folErr h.fols else if rising folLt h.fols = false then 4 else if ¬ graErr h.gras = 0 then graErr h.gras else if matchB h = false then 5 else upErr h.ups := by unfold hubErr; rw [if_neg (by rw [hn]; decide), if_neg h8]
theorem hubErr_fol {h : Hub} (hn : withinB h.now 0 1099511627776 = true) (h8 : ¬ 8 < h.fols.length) {k : Nat} (hk : k < h.fols.length) (hs : ∀ g, g ∈ h.fols.take k → folErr g = 0) (h0 : folErr h.fols[k] ≠ 0) : hubErr h = folErr h.fols[k] := by
  have h1 := firstErr_at hk hs h0
  rw [hubErr_E hn h8, h1, if_pos h0]
set_option maxHeartbeats 4000000 in
theorem a_hcheck (h : Hub) (hb : HBig h) : AFn C.P 16 [hubAV h] (.v (.int .i64 (hubErr h))) := by
  have e1 := @hubErr_now h
  have e2 := @hubErr_many h
  have e3 := @hubErr_E h
  have e4 := @hubErr_fol h
  have hma := fun h1 h2 h3 => a_matched h h1 h2 h3
  have hgc := a_gcheck h.gras hb.gras
  have huc := u_check h.ups hb.ups
  have hfb := hb.fols
  have hml := hb.gras.len
  obtain ⟨F, G, U, now⟩ := h
  dsimp only at *
  have hll := hfb.len
  generalize hE : hubErr ⟨F, G, U, now⟩ = E at *
  clear hE hb
  by_cases hn : withinB now 0 1099511627776 = true
  case neg =>
    have hn : withinB now 0 1099511627776 = false := by simpa using hn
    rw [e1 hn]
    have hw : now < 0 ∨ 1099511627776 < now := by
      by_cases h1 : now < 0
      · exact .inl h1
      · refine .inr ?_
        unfold withinB at hn
        simp at hn
        omega
    clear e1 e2 e3 e4 hma hgc huc hfb
    refine acall_intro Tryz.func16 rfl _ Tryz.ntmps16 (Nat.le_of_ble_eq_true rfl) _ Tryz.results16 0 rfl rfl ?_
    (repeat apply awp_seq); apply awp_region; (repeat' (first | apply ops_free | refine o_mv ?_ | refine o_as ?_ | refine o_ld ?_ | refine o_fa ?_ | refine o_bi ?_ | refine o_pk ?_ | refine o_ln ?_ | refine o_ia ?_ | refine o_no ?_ | refine o_al ?_ | refine o_bx ?_ | refine o_sto ?_ | (first | fail) | refine r_nil ?_ | refine g_on_t ?_ | refine g_on_f ?_ | refine g_off_t ?_ | refine g_off_f ?_ | refine g_unw ?_ | refine g_yes ?_ | refine g_no_t ?_ | refine g_no_f ?_ | ((first | refine g_sp_t ?_ ?_ | refine g_sp_f ?_ ?_); all_goals (intro hc; have hp := hc; first | (simp at hp; done) | ((try simp at hp); first | (exfalso; omega) | skip))))); show Awp _ _ _ _ _
    (refine Awp.red (red_freeze 0 rfl ?_) ?_; (intro row hrow; obtain rfl := List.mem_singleton.1 hrow; rfl); refine Awp.red (red_fp 1 0 rfl rfl (Nat.le_of_ble_eq_true rfl)) ?_)
    repeat' (first | refine walk ?_ | (first | fail) | ((first | (apply ops_split_t; rfl; rfl; exact nle rfl) | (apply ops_split_f; rfl; rfl; exact nle rfl) | (apply awp_cond; rfl)); all_goals (intro hc; have hp := hc; first | (simp at hp; done) | ((try simp at hp); first | (exfalso; omega) | skip))) | (apply awp_cond_any; rfl))
    all_goals try (exfalso; first | omega | contradiction)
    all_goals ((refine f_pure (rs := [.tmp 2]) ?_; (repeat' (first | exact rzl_nil | apply rzl_cons | exact rz_pure rfl | exact rz_ex | exact z_os | apply rz_agg | apply rz_tup | apply rz_clo | apply rz_int | apply rz_bool | apply rz_str | refine z_eq ?_ | apply rz_sl)); all_goals trace_state))
  obtain ⟨n0, n1⟩ := within_iff.1 hn
  by_cases h8 : 8 < F.length
  · rw [e2 hn h8]
    clear e1 e2 e3 e4 hma hgc huc hfb
    refine acall_intro Tryz.func16 rfl _ Tryz.ntmps16 (Nat.le_of_ble_eq_true rfl) _ Tryz.results16 0 rfl rfl ?_
    (repeat apply awp_seq); apply awp_region; (repeat' (first | apply ops_free | refine o_mv ?_ | refine o_as ?_ | refine o_ld ?_ | refine o_fa ?_ | refine o_bi ?_ | refine o_pk ?_ | refine o_ln ?_ | refine o_ia ?_ | refine o_no ?_ | refine o_al ?_ | refine o_bx ?_ | refine o_sto ?_ | (first | fail) | refine r_nil ?_ | refine g_on_t ?_ | refine g_on_f ?_ | refine g_off_t ?_ | refine g_off_f ?_ | refine g_unw ?_ | refine g_yes ?_ | refine g_no_t ?_ | refine g_no_f ?_ | ((first | refine g_sp_t ?_ ?_ | refine g_sp_f ?_ ?_); all_goals (intro hc; have hp := hc; first | (simp at hp; done) | ((try simp at hp); first | (exfalso; omega) | skip))))); show Awp _ _ _ _ _
    (refine Awp.red (red_freeze 0 rfl ?_) ?_; (intro row hrow; obtain rfl := List.mem_singleton.1 hrow; rfl); refine Awp.red (red_fp 1 0 rfl rfl (Nat.le_of_ble_eq_true rfl)) ?_)
    repeat' (first | refine walk ?_ | (first | fail) | ((first | (apply ops_split_t; rfl; rfl; exact nle rfl) | (apply ops_split_f; rfl; rfl; exact nle rfl) | (apply awp_cond; rfl)); all_goals (intro hc; have hp := hc; first | (simp at hp; done) | ((try simp at hp); first | (exfalso; omega) | skip))) | (apply awp_cond_any; rfl))
    all_goals try (exfalso; first | omega | contradiction)
    all_goals ((refine f_pure (rs := [.tmp 2]) ?_; (repeat' (first | exact rzl_nil | apply rzl_cons | exact rz_pure rfl | exact rz_ex | exact z_os | apply rz_agg | apply rz_tup | apply rz_clo | apply rz_int | apply rz_bool | apply rz_str | refine z_eq ?_ | apply rz_sl)); all_goals trace_state))
  have e3 := e3 hn h8
  have e4 := fun {k} => @e4 hn h8 k
  clear e1 e2
  refine acall_intro Tryz.func16 rfl _ Tryz.ntmps16 (Nat.le_of_ble_eq_true rfl) _ Tryz.results16 0 rfl rfl ?_
  (repeat apply awp_seq); apply awp_region; (repeat' (first | apply ops_free | refine o_mv ?_ | refine o_as ?_ | refine o_ld ?_ | refine o_fa ?_ | refine o_bi ?_ | refine o_pk ?_ | refine o_ln ?_ | refine o_ia ?_ | refine o_no ?_ | refine o_al ?_ | refine o_bx ?_ | refine o_sto ?_ | (first | fail) | refine r_nil ?_ | refine g_on_t ?_ | refine g_on_f ?_ | refine g_off_t ?_ | refine g_off_f ?_ | refine g_unw ?_ | refine g_yes ?_ | refine g_no_t ?_ | refine g_no_f ?_ | ((first | refine g_sp_t ?_ ?_ | refine g_sp_f ?_ ?_); all_goals (intro hc; have hp := hc; first | (simp at hp; done) | ((try simp at hp); first | (exfalso; omega) | skip))))); show Awp _ _ _ _ _
  (refine Awp.red (red_freeze 0 rfl ?_) ?_; (intro row hrow; obtain rfl := List.mem_singleton.1 hrow; rfl); refine Awp.red (red_fp 1 0 rfl rfl (Nat.le_of_ble_eq_true rfl)) ?_)
  repeat' (first | refine walk ?_ | (first | fail) | ((first | (apply ops_split_t; rfl; rfl; exact nle rfl) | (apply ops_split_f; rfl; rfl; exact nle rfl) | (apply awp_cond; rfl)); all_goals (intro hc; have hp := hc; first | (simp at hp; done) | ((try simp at hp); first | (exfalso; omega) | skip))) | (apply awp_cond_any; rfl))
  all_goals try (exfalso; first | omega | contradiction)
  (refine Awp.red (red_pure (ts := [(1, .fp [Hub.row ⟨F, G, U, now⟩] 0 0), (23, folAV F), (24, .v (.int .i64 F.length)), (25, .v (.int .i64 ((0 : Nat) : Int)))]) ?_) ?_; ((repeat (first | exact tsok_nil | refine p_pure ?_ | refine p_eq ?_ ?_))))
  all_goals try (rw [List.length_map]; done)
  refine awp_loop (fun n σ => ∃ i : Nat, i ≤ F.length ∧ n = F.length - i ∧ (∀ g, g ∈ F.take i → folErr g = 0) ∧ σ = ⟨[(1, .fp [Hub.row ⟨F, G, U, now⟩] 0 0), (23, folAV F), (24, .v (.int .i64 F.length)), (25, .v (.int .i64 (i : Int)))], [], C.nh⟩) F.length ⟨0, Nat.zero_le _, rfl, (by simp), rfl⟩ ?_
  rintro n σ ⟨i, hi, rfl, hsofar, rfl⟩
  by_cases hlt : i < F.length
  · have hr := getRow (f := Fol.row) hlt
    have hsm := hfb.each F[i] (List.getElem_mem _)
    have hname := g_isName F[i].name (str_lift hsm.name)
    have hjc := a_jcheck F[i].jou hsm.jou
    have hfe : folErr F[i] = if isName F[i].name = true then jouE F[i].jou else 1 := rfl
    cases hin : isName F[i].name with
    | false =>
      rw [hin] at hname hfe
      have hfe : folErr F[i] = 1 := by rw [hfe]; simp
      rw [e4 hlt hsofar (by rw [hfe]; decide), hfe]
      clear e3 e4 hma hgc huc hfb
      repeat' (first | refine walk ?_ | (first | (apply to_call Tryz.func37 rfl rfl; intro hIsFn; refine o_callf hIsFn (hname ..) ?_; skip) | (apply to_call Tryz.func38 rfl rfl; intro hIsFn; refine o_callf hIsFn (hjc ..) ?_; skip)) | ((first | (apply ops_split_t; rfl; rfl; exact nle rfl) | (apply ops_split_f; rfl; rfl; exact nle rfl) | (apply awp_cond; rfl)); all_goals (intro hc; have hp := hc; first | (simp at hp; done) | ((try simp at hp); first | (exfalso; omega) | skip))) | (apply awp_cond_any; rfl))
      all_goals try (exfalso; first | omega | contradiction)
      all_goals ((refine f_pure (rs := [.tmp 2]) ?_; (repeat' (first | exact rzl_nil | apply rzl_cons | exact rz_pure rfl | exact rz_ex | exact z_os | apply rz_agg | apply rz_tup | apply rz_clo | apply rz_int | apply rz_bool | apply rz_str | refine z_eq ?_ | apply rz_sl)); all_goals trace_state))
    | true =>
      rw [hin] at hname hfe
      have hfe : folErr F[i] = jouE F[i].jou := by rw [hfe]; simp
      by_cases hz : jouE F[i].jou = 0
      · rw [hz] at hjc hfe
        have hnx := mem_take_succ (p := fun g => folErr g = 0) hlt hsofar hfe
        clear e3 e4 hma hgc huc hfb
        repeat' (first | refine walk ?_ | (first | (apply to_call Tryz.func37 rfl rfl; intro hIsFn; refine o_callf hIsFn (hname ..) ?_; skip) | (apply to_call Tryz.func38 rfl rfl; intro hIsFn; refine o_callf hIsFn (hjc ..) ?_; skip)) | ((first | (apply ops_split_t; rfl; rfl; exact nle rfl) | (apply ops_split_f; rfl; rfl; exact nle rfl) | (apply awp_cond; rfl)); all_goals (intro hc; have hp := hc; first | (simp at hp; done) | ((try simp at hp); first | (exfalso; omega) | skip))) | (apply awp_cond_any; rfl))
        all_goals try (exfalso; first | omega | contradiction)
        refine ⟨F.length - (i + 1), _, by omega, red_pure (ts := [(1, .fp [Hub.row ⟨F, G, U, now⟩] 0 0), (23, folAV F), (24, .v (.int .i64 F.length)), (25, .v (.int .i64 ((i + 1 : Nat) : Int)))]) ?_, i + 1, by omega, rfl, hnx, rfl⟩; ((repeat (first | exact tsok_nil | refine p_pure ?_ | refine p_eq ?_ ?_)))
      · rw [e4 hlt hsofar (by rw [hfe]; exact hz), hfe]
        clear e3 e4 hma hgc huc hfb hfe
        generalize jouE F[i].jou = JE at *
        repeat' (first | refine walk ?_ | (first | (apply to_call Tryz.func37 rfl rfl; intro hIsFn; refine o_callf hIsFn (hname ..) ?_; skip) | (apply to_call Tryz.func38 rfl rfl; intro hIsFn; refine o_callf hIsFn (hjc ..) ?_; skip)) | ((first | (apply ops_split_t; rfl; rfl; exact nle rfl) | (apply ops_split_f; rfl; rfl; exact nle rfl) | (apply awp_cond; rfl)); all_goals (intro hc; have hp := hc; first | (simp at hp; done) | ((try simp at hp); first | (exfalso; omega) | skip))) | (apply awp_cond_any; rfl))
        all_goals try (exfalso; first | omega | contradiction)
        all_goals ((refine f_pure (rs := [.tmp 2]) ?_; (repeat' (first | exact rzl_nil | apply rzl_cons | exact rz_pure rfl | exact rz_ex | exact z_os | apply rz_agg | apply rz_tup | apply rz_clo | apply rz_int | apply rz_bool | apply rz_str | refine z_eq ?_ | apply rz_sl)); all_goals trace_state))
  obtain rfl : i = F.length := by omega
  have hz : firstErr folErr F = 0 := firstErr_zero.2 (fun s hs => hsofar s (by rw [List.take_length]; exact hs))
  rw [if_neg (fun q => q hz)] at e3
  clear hsofar e4 hfb
  repeat' (first | refine walk ?_ | fail | ((first | (apply ops_split_t; rfl; rfl; exact nle rfl) | (apply ops_split_f; rfl; rfl; exact nle rfl) | (apply awp_cond; rfl)); all_goals (intro hc; have hp := hc; first | (simp at hp; done) | ((try simp at hp); first | (exfalso; omega) | skip))) | (apply awp_cond_any; rfl))
  all_goals try (exfalso; omega)
  (refine Awp.red (red_pure (ts := [(1, .fp [Hub.row ⟨F, G, U, now⟩] 0 0), (6, .v (.int .i64 ((0 + 1 : Nat) : Int)))]) ?_) ?_; ((repeat (first | exact tsok_nil | refine p_pure ?_ | refine p_eq ?_ ?_))))
  refine awp_loop (fun n σ => ∃ i : Nat, i ≤ (F.drop 1).length ∧ n = (F.drop 1).length - i ∧ (∀ (k : Nat) (h : k + 1 < F.length), k < i → folLt (F[k]'(by omega)) F[k + 1] = true) ∧ σ = ⟨[(1, .fp [Hub.row ⟨F, G, U, now⟩] 0 0), (6, .v (.int .i64 ((i + 1 : Nat) : Int)))], [], C.nh⟩) (F.drop 1).length ⟨0, Nat.zero_le _, rfl, (fun k h hk => absurd hk (Nat.not_lt_zero _)), rfl⟩ ?_
  have hdl : (F.drop 1).length = F.length - 1 := by simp
  rintro n σ ⟨i, hi, rfl, hsofar, rfl⟩
  by_cases hlt : i + 1 < F.length
  · have hr := getRow (f := Fol.row) hlt
    have hr' := getRow (f := Fol.row) (l := F) (i := i) (by omega)
    have hle := leq_fol F[i] F[i + 1]
    have hnr : folLt F[i] F[i + 1] = false → rising folLt F = false := fun h => by
      cases hq : rising folLt F
      · rfl
      · have := rising_iff.1 hq i hlt
        rw [h] at this; cases this
    cases hfl : folLt F[i] F[i + 1] with
    | false =>
      rw [if_pos (hnr hfl)] at e3
      rw [e3]
      rw [hfl] at hle
      clear e3 hma hgc huc hnr
      repeat' (first | refine walk ?_ | fail | ((first | (apply ops_split_t; rfl; rfl; exact nle rfl) | (apply ops_split_f; rfl; rfl; exact nle rfl) | (apply awp_cond; rfl)); all_goals (intro hc; have hp := hc; first | (simp at hp; done) | ((try simp at hp); first | (exfalso; omega) | skip))) | (apply awp_cond_any; rfl))
      all_goals try (exfalso; first | omega | simp_all; done)
      all_goals ((refine f_pure (rs := [.tmp 2]) ?_; (repeat' (first | exact rzl_nil | apply rzl_cons | exact rz_pure rfl | exact rz_ex | exact z_os | apply rz_agg | apply rz_tup | apply rz_clo | apply rz_int | apply rz_bool | apply rz_str | refine z_eq ?_ | apply rz_sl)); all_goals trace_state))
    | true =>
      rw [hfl] at hle
      have hok := hfl
      clear e3 hma hgc huc hnr
      repeat' (first | refine walk ?_ | fail | ((first | (apply ops_split_t; rfl; rfl; exact nle rfl) | (apply ops_split_f; rfl; rfl; exact nle rfl) | (apply awp_cond; rfl)); all_goals (intro hc; have hp := hc; first | (simp at hp; done) | ((try simp at hp); first | (exfalso; omega) | skip))) | (apply awp_cond_any; rfl))
      all_goals try (exfalso; first | omega | simp_all; done)
      refine ⟨(F.drop 1).length - (i + 1), _, by omega, red_pure (ts := [(1, .fp [Hub.row ⟨F, G, U, now⟩] 0 0), (6, .v (.int .i64 ((i + 1 + 1 : Nat) : Int)))]) ?_, i + 1, by omega, rfl, (fun k h hk => by
        by_cases e : k = i
        · subst e; exact hok
        · exact hsofar k h (by omega)), rfl⟩; ((repeat (first | exact tsok_nil | refine p_pure ?_ | refine p_eq ?_ ?_)))
  have hrise : rising folLt F = true := rising_iff.2 fun k h => hsofar k h (by simp at hi; omega)
  rw [if_neg (by rw [hrise]; decide)] at e3
  clear hsofar
  rw [e3]
  clear e3
  by_cases hg0 : graErr G = 0
  case neg =>
    rw [if_pos hg0]
    generalize graErr G = GE at *
    clear hma huc
    repeat' (first | refine walk ?_ | (first | (apply to_call Tryz.func39 rfl rfl; intro hIsFn; refine o_callf hIsFn (hgc ..) ?_; skip)) | ((first | (apply ops_split_t; rfl; rfl; exact nle rfl) | (apply ops_split_f; rfl; rfl; exact nle rfl) | (apply awp_cond; rfl)); all_goals (intro hc; have hp := hc; first | (simp at hp; done) | ((try simp at hp); first | (exfalso; omega) | skip))) | (apply awp_cond_any; rfl))
    all_goals try (exfalso; first | omega | contradiction)
    all_goals ((refine f_pure (rs := [.tmp 2]) ?_; (repeat' (first | exact rzl_nil | apply rzl_cons | exact rz_pure rfl | exact rz_ex | exact z_os | apply rz_agg | apply rz_tup | apply rz_clo | apply rz_int | apply rz_bool | apply rz_str | refine z_eq ?_ | apply rz_sl)); all_goals trace_state))
  rw [if_neg (fun q => q hg0)]
  rw [hg0] at hgc
  have hma := hma (by omega) (by have := graErr_len hg0; omega) hrise
  cases hmm : matchB ⟨F, G, U, now⟩ with
  | false =>
    rw [hmm] at hma
    rw [if_pos rfl]
    clear huc
    repeat' (first | refine walk ?_ | (first | (apply to_call Tryz.func39 rfl rfl; intro hIsFn; refine o_callf hIsFn (hgc ..) ?_; skip) | (apply to_call Tryz.func40 rfl rfl; intro hIsFn; refine o_callf hIsFn (hma ..) ?_; skip)) | ((first | (apply ops_split_t; rfl; rfl; exact nle rfl) | (apply ops_split_f; rfl; rfl; exact nle rfl) | (apply awp_cond; rfl)); all_goals (intro hc; have hp := hc; first | (simp at hp; done) | ((try simp at hp); first | (exfalso; omega) | skip))) | (apply awp_cond_any; rfl))
    all_goals try (exfalso; first | omega | contradiction)
    all_goals ((refine f_pure (rs := [.tmp 2]) ?_; (repeat' (first | exact rzl_nil | apply rzl_cons | exact rz_pure rfl | exact rz_ex | exact z_os | apply rz_agg | apply rz_tup | apply rz_clo | apply rz_int | apply rz_bool | apply rz_str | refine z_eq ?_ | apply rz_sl)); all_goals trace_state))
  | true =>
    rw [hmm] at hma
    rw [if_neg (by decide)]
    generalize upErr U = UE at *
    repeat' (first | refine walk ?_ | (first | (apply to_call Tryz.func39 rfl rfl; intro hIsFn; refine o_callf hIsFn (hgc ..) ?_; skip) | (apply to_call Tryz.func40 rfl rfl; intro hIsFn; refine o_callf hIsFn (hma ..) ?_; skip) | (apply to_call Tryz.func31 rfl rfl; intro hIsFn; refine o_callf hIsFn (huc ..) ?_; skip)) | ((first | (apply ops_split_t; rfl; rfl; exact nle rfl) | (apply ops_split_f; rfl; rfl; exact nle rfl) | (apply awp_cond; rfl)); all_goals (intro hc; have hp := hc; first | (simp at hp; done) | ((try simp at hp); first | (exfalso; omega) | skip))) | (apply awp_cond_any; rfl))
    all_goals try (exfalso; first | omega | contradiction)
    all_goals ((refine f_pure (rs := [.tmp 2]) ?_; (repeat' (first | exact rzl_nil | apply rzl_cons | exact rz_pure rfl | exact rz_ex | exact z_os | apply rz_agg | apply rz_tup | apply rz_clo | apply rz_int | apply rz_bool | apply rz_str | refine z_eq ?_ | apply rz_sl)); all_goals trace_state))
end Go.Proofs.YtiljlcgmcmjcoaaGreatDoor

/- Journals in the abstract layer, 5: Read. -/
set_option linter.unusedSimpArgs false
set_option linter.unnecessarySimpa false
set_option linter.unusedVariables false
set_option maxHeartbeats 1000000
namespace Go.Proofs.YtiljlcgmcmjcoaaGreatDoor
open Go.Ab Go.RowKit
set_option maxRecDepth 10000
attribute [local irreducible] Awp Ops OpsX Wanted Red ExOk Go.Ab.Fin ACall Rz RzL RzRows Enters ResOk RenV RenVL ArgV ArgVL

def resPg (r : Pag × Int) : AV := .tup [.agg r.1.row, .v (.int .i64 r.2)]
theorem rows_part {α : Type} {f : α → List AV} {l : List α} {k m : Nat} : (((((l.map f).take (l.map f).length).drop k).take m).drop 0) = ((l.drop k).take m).map f := by
  rw [List.take_length]; simp
theorem a_read (j : Jou) (cursor most : Int) (hb : JBig j) : AFn C.P 124 [.agg j.row, .v (.int .i64 cursor), .v (.int .i64 most)] (resPg (readR j cursor most)) := by
  have ho := a_open j hb
  have hmj : (j.coms.map Com.row).length = j.coms.length := List.length_map ..
  by_cases hz : jouE j = 0
  · rw [open_ok hz] at ho
    have hJ := jright_iff.1 hz
    have hlen := hJ.len
    have hlo := hJ.lo
    have hhi := hJ.hi
    have hN := hJ.now
    have hlast := a_jlast j (nowT j) hJ
    have hce := a_cloneEF (nowT j) (by have := hN.len; omega)
    have hE : readR j cursor most = readW j cursor most := by unfold readR; rw [if_neg (by simp [hz])]
    have hL : lastN j = j.first + j.coms.length - 1 := rfl
    have hfew := comsR_few hJ.base hJ.run
    have hrk : ∀ row, row ∈ j.coms.map Com.row → row.length = 3 := fun row hr => by obtain ⟨x, _, rfl⟩ := List.mem_map.1 hr; rfl
    rw [hE]
    unfold readW
    clear hE hz
    generalize nowT j = U at *
    generalize lastN j = LN at *
    by_cases h1 : most < 1 ∨ 10 < most ∨ cursor < 0
    · rw [if_pos h1]
      refine acall_intro Tryz.func124 rfl _ Tryz.ntmps124 (Nat.le_of_ble_eq_true rfl) _ Tryz.results124 0 rfl rfl ?_
      (repeat apply awp_seq); apply awp_region; (repeat' (first | apply ops_free | refine o_mv ?_ | refine o_as ?_ | refine o_ld ?_ | refine o_fa ?_ | refine o_bi ?_ | refine o_pk ?_ | refine o_ln ?_ | refine o_ex ?_ | refine o_nc ?_ | refine o_bu ?_ | refine o_al ?_ | refine o_bx ?_ | refine o_sto ?_ | (first | fail) | refine r_nil ?_ | refine g_on_t ?_ | refine g_on_f ?_ | refine g_off_t ?_ | refine g_off_f ?_ | refine g_unw ?_ | refine g_yes ?_ | refine g_no_t ?_ | refine g_no_f ?_ | ((first | refine g_sp_t ?_ ?_ | refine g_sp_f ?_ ?_); all_goals (intro hc; have hp := hc; first | (simp at hp; done) | ((try simp at hp); first | (exfalso; omega) | skip))))); show Awp _ _ _ _ _
      (refine Awp.red (red_freeze 0 rfl ?_) ?_; (intro row hrow; obtain rfl := List.mem_singleton.1 hrow; rfl); refine Awp.red (red_fp 3 0 rfl rfl (Nat.le_of_ble_eq_true rfl)) ?_)
      repeat' (first | refine walk ?_ | (first | (apply to_call Tryz.func74 rfl rfl; intro hIsFn; refine o_callp hIsFn (ho ..) ?_) | (apply to_call Tryz.func152 rfl rfl; intro hIsFn; refine o_callf hIsFn (hlast ..) ?_; skip) | (apply to_call Tryz.func101 rfl rfl; intro hIsFn; refine o_callp hIsFn (hce ..) ?_) | fail) | ((first | (apply ops_split_t; rfl; rfl; exact nle rfl) | (apply ops_split_f; rfl; rfl; exact nle rfl) | (apply awp_cond; rfl)); all_goals (intro hc; have hp := hc; first | (simp at hp; done) | ((try simp at hp); first | (exfalso; omega) | skip))) | (apply awp_cond_any; rfl))
      (all_goals try (exfalso; first | omega | contradiction))
      all_goals ((refine f_pure (rs := [.cell 6 44, .tmp 7]) ?_; (repeat' (first | exact rzl_nil | apply rzl_cons | exact rz_pure rfl | exact rz_ex | exact z_os | apply rz_agg | apply rz_tup | apply rz_clo | apply rz_int | apply rz_bool | apply rz_str | refine z_eq ?_ | apply rz_sl)); all_goals trace_state))
    · rw [if_neg h1]
      by_cases h2 : LN < cursor
      · rw [if_pos h2]
        refine acall_intro Tryz.func124 rfl _ Tryz.ntmps124 (Nat.le_of_ble_eq_true rfl) _ Tryz.results124 0 rfl rfl ?_
        (repeat apply awp_seq); apply awp_region; (repeat' (first | apply ops_free | refine o_mv ?_ | refine o_as ?_ | refine o_ld ?_ | refine o_fa ?_ | refine o_bi ?_ | refine o_pk ?_ | refine o_ln ?_ | refine o_ex ?_ | refine o_nc ?_ | refine o_bu ?_ | refine o_al ?_ | refine o_bx ?_ | refine o_sto ?_ | (first | fail) | refine r_nil ?_ | refine g_on_t ?_ | refine g_on_f ?_ | refine g_off_t ?_ | refine g_off_f ?_ | refine g_unw ?_ | refine g_yes ?_ | refine g_no_t ?_ | refine g_no_f ?_ | ((first | refine g_sp_t ?_ ?_ | refine g_sp_f ?_ ?_); all_goals (intro hc; have hp := hc; first | (simp at hp; done) | ((try simp at hp); first | (exfalso; omega) | skip))))); show Awp _ _ _ _ _
        (refine Awp.red (red_freeze 0 rfl ?_) ?_; (intro row hrow; obtain rfl := List.mem_singleton.1 hrow; rfl); refine Awp.red (red_fp 3 0 rfl rfl (Nat.le_of_ble_eq_true rfl)) ?_)
        repeat' (first | refine walk ?_ | (first | (apply to_call Tryz.func74 rfl rfl; intro hIsFn; refine o_callp hIsFn (ho ..) ?_) | (apply to_call Tryz.func152 rfl rfl; intro hIsFn; refine o_callf hIsFn (hlast ..) ?_; skip) | (apply to_call Tryz.func101 rfl rfl; intro hIsFn; refine o_callp hIsFn (hce ..) ?_) | fail) | ((first | (apply ops_split_t; rfl; rfl; exact nle rfl) | (apply ops_split_f; rfl; rfl; exact nle rfl) | (apply awp_cond; rfl)); all_goals (intro hc; have hp := hc; first | (simp at hp; done) | ((try simp at hp); first | (exfalso; omega) | skip))) | (apply awp_cond_any; rfl))
        (all_goals try (exfalso; first | omega | contradiction))
        all_goals ((refine f_pure (rs := [.cell 6 44, .tmp 7]) ?_; (repeat' (first | exact rzl_nil | apply rzl_cons | exact rz_pure rfl | exact rz_ex | exact z_os | apply rz_agg | apply rz_tup | apply rz_clo | apply rz_int | apply rz_bool | apply rz_str | refine z_eq ?_ | apply rz_sl)); all_goals trace_state))
      · rw [if_neg h2]
        by_cases h3 : cursor < j.first - 1
        · rw [if_pos h3]
          refine acall_intro Tryz.func124 rfl _ Tryz.ntmps124 (Nat.le_of_ble_eq_true rfl) _ Tryz.results124 0 rfl rfl ?_
          (repeat apply awp_seq); apply awp_region; (repeat' (first | apply ops_free | refine o_mv ?_ | refine o_as ?_ | refine o_ld ?_ | refine o_fa ?_ | refine o_bi ?_ | refine o_pk ?_ | refine o_ln ?_ | refine o_ex ?_ | refine o_nc ?_ | refine o_bu ?_ | refine o_al ?_ | refine o_bx ?_ | refine o_sto ?_ | (first | fail) | refine r_nil ?_ | refine g_on_t ?_ | refine g_on_f ?_ | refine g_off_t ?_ | refine g_off_f ?_ | refine g_unw ?_ | refine g_yes ?_ | refine g_no_t ?_ | refine g_no_f ?_ | ((first | refine g_sp_t ?_ ?_ | refine g_sp_f ?_ ?_); all_goals (intro hc; have hp := hc; first | (simp at hp; done) | ((try simp at hp); first | (exfalso; omega) | skip))))); show Awp _ _ _ _ _
          (refine Awp.red (red_freeze 0 rfl ?_) ?_; (intro row hrow; obtain rfl := List.mem_singleton.1 hrow; rfl); refine Awp.red (red_fp 3 0 rfl rfl (Nat.le_of_ble_eq_true rfl)) ?_)
          repeat' (first | refine walk ?_ | (first | (apply to_call Tryz.func74 rfl rfl; intro hIsFn; refine o_callp hIsFn (ho ..) ?_) | (apply to_call Tryz.func152 rfl rfl; intro hIsFn; refine o_callf hIsFn (hlast ..) ?_; skip) | (apply to_call Tryz.func101 rfl rfl; intro hIsFn; refine o_callp hIsFn (hce ..) ?_) | fail) | ((first | (apply ops_split_t; rfl; rfl; exact nle rfl) | (apply ops_split_f; rfl; rfl; exact nle rfl) | (apply awp_cond; rfl)); all_goals (intro hc; have hp := hc; first | (simp at hp; done) | ((try simp at hp); first | (exfalso; omega) | skip))) | (apply awp_cond_any; rfl))
          (all_goals try (exfalso; first | omega | contradiction))
          all_goals ((refine f_pure (rs := [.cell 6 44, .tmp 7]) ?_; (repeat' (first | exact rzl_nil | apply rzl_cons | exact rz_pure rfl | exact rz_ex | exact z_os | apply rz_agg | apply rz_tup | apply rz_clo | apply rz_int | apply rz_bool | apply rz_str | refine z_eq ?_ | apply rz_sl)); all_goals trace_state))
        · rw [if_neg h3]
          have hP : partC j cursor most = (j.coms.drop (cursor - j.first + 1).toNat).take most.toNat := rfl
          generalize partC j cursor most = X at *
          obtain ⟨k, hk⟩ : ∃ k : Nat, k = (cursor - j.first + 1).toNat := ⟨_, rfl⟩
          obtain ⟨m, hm⟩ : ∃ m : Nat, m = min (j.coms.length - k) most.toNat := ⟨_, rfl⟩
          have hX : X = (j.coms.drop k).take m := by rw [hP, ← hk, hm, List.take_eq_take_min]; simp [Nat.min_comm]
          clear hP
          have hxl : X.length = m := by rw [hX]; simp; omega
          have hcl : ACall C.P 153 [.sl false (((((j.coms.map Com.row).take (j.coms.map Com.row).length).drop k).take m).drop 0)] [] (.os 0 0 X.length) [.own false 3 (X.map Com.row)] := by
            rw [rows_part, ← hX]
            exact a_cloned X (by omega) (fun c hc => by have := hfew c (by rw [hX] at hc; exact List.mem_of_mem_drop (List.mem_of_mem_take hc)); omega)
          have hdl : (((j.coms.map Com.row).take (j.coms.map Com.row).length).drop k).length = j.coms.length - k := by simp
          refine acall_intro Tryz.func124 rfl _ Tryz.ntmps124 (Nat.le_of_ble_eq_true rfl) _ Tryz.results124 0 rfl rfl ?_
          (repeat apply awp_seq); apply awp_region; (repeat' (first | apply ops_free | refine o_mv ?_ | refine o_as ?_ | refine o_ld ?_ | refine o_fa ?_ | refine o_bi ?_ | refine o_pk ?_ | refine o_ln ?_ | refine o_ex ?_ | refine o_nc ?_ | refine o_bu ?_ | refine o_al ?_ | refine o_bx ?_ | refine o_sto ?_ | (first | fail) | refine r_nil ?_ | refine g_on_t ?_ | refine g_on_f ?_ | refine g_off_t ?_ | refine g_off_f ?_ | refine g_unw ?_ | refine g_yes ?_ | refine g_no_t ?_ | refine g_no_f ?_ | ((first | refine g_sp_t ?_ ?_ | refine g_sp_f ?_ ?_); all_goals (intro hc; have hp := hc; first | (simp at hp; done) | ((try simp at hp); first | (exfalso; omega) | skip))))); show Awp _ _ _ _ _
          (refine Awp.red (red_freeze 0 rfl ?_) ?_; (intro row hrow; obtain rfl := List.mem_singleton.1 hrow; rfl); refine Awp.red (red_fp 3 0 rfl rfl (Nat.le_of_ble_eq_true rfl)) ?_)
          repeat' (first | refine walk ?_ | (first | (apply to_call Tryz.func74 rfl rfl; intro hIsFn; refine o_callp hIsFn (ho ..) ?_) | (apply to_call Tryz.func152 rfl rfl; intro hIsFn; refine o_callf hIsFn (hlast ..) ?_; skip) | (apply to_call Tryz.func101 rfl rfl; intro hIsFn; refine o_callp hIsFn (hce ..) ?_) | (apply opsx_val; apply ex_min; (case hx => rfl); (case hy => rfl); (case hN => exact nle rfl)) | (apply opsx_val; apply ex_slice_sl (ex' := false) (a := k) (b := (j.coms.map Com.row).length) (m := 0); (case hx => rfl); (case hT => rfl); (case he => rfl); (case hE => rfl); (case ha => exact ⟨_, av_int (by omega)⟩); (case hb => rfl); (case hm => trivial); (case hab => (rw [hmj]; omega)); (case hbl => exact Nat.le_refl _); (case hrk => exact hrk); (case hex => exact nofun); (case hN => exact nle rfl)) | (apply opsx_val; apply ex_slice_sl (ex' := false) (a := 0) (b := m) (m := 0); (case hx => rfl); (case hT => rfl); (case he => rfl); (case hE => rfl); (case ha => rfl); (case hb => exact ⟨_, av_int (by rw [hdl]; omega)⟩); (case hm => trivial); (case hab => exact Nat.zero_le _); (case hbl => (rw [hdl]; omega)); (case hrk => (intro row hr; exact hrk row (List.mem_of_mem_take (List.mem_of_mem_drop hr)))); (case hex => exact nofun); (case hN => exact nle rfl)) | (apply to_call Tryz.func153 rfl rfl; intro hIsFn; refine o_callo ([]) hIsFn (hcl ..) ?_)) | ((first | (apply ops_split_t; rfl; rfl; exact nle rfl) | (apply ops_split_f; rfl; rfl; exact nle rfl) | (apply awp_cond; rfl)); all_goals (intro hc; have hp := hc; first | (simp at hp; done) | ((try simp at hp); first | (exfalso; omega) | skip))) | (apply awp_cond_any; rfl))
          (all_goals try (exfalso; first | omega | contradiction))
          all_goals ((refine f_pure (rs := [.cell 6 44, .tmp 7]) ?_; (repeat' (first | exact rzl_nil | apply rzl_cons | exact rz_pure rfl | exact rz_ex | exact z_os | apply rz_agg | apply rz_tup | apply rz_clo | apply rz_int | apply rz_bool | apply rz_str | refine z_eq ?_ | apply rz_sl)); all_goals trace_state))
  · rw [open_bad hz] at ho
    unfold readR
    rw [if_pos hz]
    generalize jouE j = E at *
    refine acall_intro Tryz.func124 rfl _ Tryz.ntmps124 (Nat.le_of_ble_eq_true rfl) _ Tryz.results124 0 rfl rfl ?_
    repeat' (first | refine walk ?_ | (first | (apply to_call Tryz.func74 rfl rfl; intro hIsFn; refine o_callp hIsFn (ho ..) ?_)) | ((first | (apply ops_split_t; rfl; rfl; exact nle rfl) | (apply ops_split_f; rfl; rfl; exact nle rfl) | (apply awp_cond; rfl)); all_goals (intro hc; have hp := hc; first | (simp at hp; done) | ((try simp at hp); first | (exfalso; omega) | skip))) | (apply awp_cond_any; rfl))
    all_goals try (exfalso; omega)
    all_goals ((refine f_pure (rs := [.cell 6 44, .tmp 7]) ?_; (repeat' (first | exact rzl_nil | apply rzl_cons | exact rz_pure rfl | exact rz_ex | exact z_os | apply rz_agg | apply rz_tup | apply rz_clo | apply rz_int | apply rz_bool | apply rz_str | refine z_eq ?_ | apply rz_sl)); all_goals trace_state))
end Go.Proofs.YtiljlcgmcmjcoaaGreatDoor
