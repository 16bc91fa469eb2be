/- The reference's trees, 7: ChangeOf, AllOf; the laws TreeApplies, TreeAlls, TreeFinds, TreeChecks. -/
import Derived.Test.YtkkfilkmkdnboaaDoorTuC
import Derived.Test.YtkkfilkmkdnboaaDoorTsC
import Derived.Test.YtkkfilkmkdnboaaDoorAbTyW
set_option linter.unusedSimpArgs false
set_option linter.unnecessarySimpa false
set_option linter.unusedVariables false
set_option maxHeartbeats 1000000
namespace Go.Proofs.YtkkfilkmkdnboaaDoor
open Go.Ab Go.RowKit
set_option maxRecDepth 10000
attribute [local irreducible] Awp Ops OpsX Wanted Red ExOk Go.Ab.Fin ACall Rz RzL RzRows Enters ResOk RenV RenVL ArgV ArgVL

theorem raw_pre (t : List Ent) (c : Chg) (v : Int) : rawE t c v = if ¬ chgErr c = 0 then chgErr c else if ¬ preErr t c = 0 then preErr t c else if ¬ staleErr t c = 0 then staleErr t c else doneE t c v := by
  unfold rawE
  rw [may_pre]
  by_cases h0 : chgErr c = 0 <;> by_cases h1 : preErr t c = 0 <;> by_cases h2 : staleErr t c = 0 <;> simp [h0, h1, h2]
theorem stale_8 {t : List Ent} {c : Chg} (h : ¬ staleErr t c = 0) : staleErr t c = 8 := by
  unfold staleErr at *
  split at h
  · rename_i h1; rw [if_pos h1]
  · exact absurd rfl h
theorem a_changeOf (t : List Ent) (c : Chg) (v : Int) (h60 : t.length ≤ 60) (hs : rising entLt t = true) (hgt : ∀ x, x ∈ t → pathErr x.path = 0) (hcs : c.small) : AFn C.P 80 [entAV t, .agg c.row, .v (.int .i64 v)] (.tup [entAV (rawL t c v), .v (.int .i64 (rawE t c v))]) := by
  have hR := raw_pre t c v
  by_cases h0 : chgErr c = 0
  · rw [if_neg (by simp [h0])] at hR
    by_cases h1 : preErr t c = 0
    · rw [if_neg (by simp [h1])] at hR
      by_cases h2 : staleErr t c = 0
      · rw [if_neg (by simp [h2])] at hR
        obtain ⟨k1, k2, -⟩ := chgErr_zero h0
        have hL : rawL t c v = if doneE t c v = 0 then doneL t c v else [] := by unfold rawL; rw [hR]
        rw [hL, hR]
        by_cases e1 : c.kind = 1
        · exact a_co1 t c v h60 hs hgt hcs e1 h0 h1 h2
        · by_cases e2 : c.kind = 2
          · exact a_co2 t c v h60 hs hgt hcs e2 h0 h1 h2
          · by_cases e3 : c.kind = 3
            · exact a_co3 t c v h60 hs hgt hcs e3 h0 h1 h2
            · exact a_co4 t c v h60 hs hgt hcs (by omega) h0 h1 h2
      · rw [if_pos h2] at hR
        rw [rawL_bad (by rw [hR]; exact h2), hR, stale_8 h2]
        exact a_coS t c v h60 hs hgt hcs h0 h1 h2
    · rw [if_pos h1] at hR
      rw [rawL_bad (by rw [hR]; exact h1), hR]
      exact a_coP t c v h60 hs hcs h0 h1
  · rw [if_pos h0] at hR
    rw [rawL_bad (by rw [hR]; exact h0), hR]
    exact a_co0 t c v h60 hcs h0
theorem done_60 {t : List Ent} {c : Chg} {v : Int} (hr : rawE t c v = 0) : (doneL t c v).length ≤ 60 := by
  unfold rawE at hr
  split at hr
  · contradiction
  · split at hr
    · contradiction
    · exact (done_ok hr).2
def allW (t : List Ent) (l : List Chg) (v : Int) : List Ent × Nat × Int := if 20 < l.length then ([], 0, 2) else if isVer v = false ∧ 0 < l.length then ([], 0, 3) else allR v t l 0
theorem a_allOf (t : List Ent) (l : List Chg) (v : Int) (h60 : t.length ≤ 60) (hR : RightE t) (hcb : CBig l) : AFn C.P 51 [entAV t, chgAV l, .v (.int .i64 v)] (resAll (allW t l v)) := by
  have h2 := a_isVerR v
  have hll := hcb.len
  have hml : (l.map Chg.row).length = l.length := List.length_map ..
  have hE : allW t l v = if 20 < l.length then ([], 0, 2) else if isVer v = false ∧ 0 < l.length then ([], 0, 3) else allR v t l 0 := rfl
  by_cases h20 : 20 < l.length
  · rw [if_pos h20] at hE
    rw [hE]
    refine acall_intro Tryd.func51 rfl _ Tryd.ntmps51 (Nat.le_of_ble_eq_true rfl) _ Tryd.results51 0 rfl rfl ?_
    repeat' (first | refine walk ?_ | fail | ((first | (apply ops_split_t; rfl; rfl; exact nle rfl) | (apply ops_split_f; rfl; rfl; exact nle rfl) | (apply awp_cond; rfl)); all_goals (intro hc; have hp := hc; first | (simp at hp; done) | ((try simp at hp); first | (exfalso; omega) | skip))) | (apply awp_cond_any; rfl))
    all_goals try (exfalso; first | omega | (simp_all; done) | (simp_all; omega))
    all_goals ((refine f_pure (rs := [.tmp 6, .tmp 7, .tmp 8]) ?_; (repeat' (first | exact rzl_nil | apply rzl_cons | exact rz_pure rfl | exact rz_ex | exact z_os | apply rz_agg | apply rz_tup | apply rz_clo | apply rz_int | apply rz_bool | apply rz_str | refine z_eq ?_ | apply rz_sl)); all_goals trace_state))
  · rw [if_neg h20] at hE
    by_cases hv : isVer v = false ∧ 0 < l.length
    · rw [if_pos hv] at hE
      rw [hE]
      rw [hv.1] at h2
      refine acall_intro Tryd.func51 rfl _ Tryd.ntmps51 (Nat.le_of_ble_eq_true rfl) _ Tryd.results51 0 rfl rfl ?_
      repeat' (first | refine walk ?_ | (first | (apply to_call Tryd.func56 rfl rfl; intro hIsFn; refine o_callf hIsFn (h2 ..) ?_; skip)) | ((first | (apply ops_split_t; rfl; rfl; exact nle rfl) | (apply ops_split_f; rfl; rfl; exact nle rfl) | (apply awp_cond; rfl)); all_goals (intro hc; have hp := hc; first | (simp at hp; done) | ((try simp at hp); first | (exfalso; omega) | skip))) | (apply awp_cond_any; rfl))
      all_goals try (exfalso; first | omega | (simp_all; done) | (simp_all; omega))
      all_goals ((refine f_pure (rs := [.tmp 6, .tmp 7, .tmp 8]) ?_; (repeat' (first | exact rzl_nil | apply rzl_cons | exact rz_pure rfl | exact rz_ex | exact z_os | apply rz_agg | apply rz_tup | apply rz_clo | apply rz_int | apply rz_bool | apply rz_str | refine z_eq ?_ | apply rz_sl)); all_goals trace_state))
    · rw [if_neg hv] at hE
      generalize hV : isVer v = V at *
      have hv2 : V = false → l.length = 0 := fun h => by
        rcases Nat.eq_zero_or_pos l.length with h4 | h4
        · exact h4
        · exact absurd ⟨h, h4⟩ hv
      clear hV
      generalize hA : allW t l v = A at *
      clear hA
      refine acall_intro Tryd.func51 rfl _ Tryd.ntmps51 (Nat.le_of_ble_eq_true rfl) _ Tryd.results51 0 rfl rfl ?_
      repeat' (first | refine walk ?_ | (first | (apply to_call Tryd.func56 rfl rfl; intro hIsFn; refine o_callf hIsFn (h2 ..) ?_; skip)) | ((first | (apply ops_split_t; rfl; rfl; exact nle rfl) | (apply ops_split_f; rfl; rfl; exact nle rfl) | (apply awp_cond; rfl)); all_goals (intro hc; have hp := hc; first | (simp at hp; done) | ((try simp at hp); first | (exfalso; omega) | skip))) | (apply awp_cond_any; rfl))
      all_goals try (exfalso; first | omega | (simp_all; done) | (simp_all; omega))
      all_goals (
        (refine Awp.red (red_pure (ts := [(0, entAV t), (1, chgAV l), (2, .v (.int .i64 v)), (9, .v (.int .i64 ((0 : Nat) : Int)))]) ?_) ?_; ((repeat (first | exact tsok_nil | refine p_pure ?_ | refine p_eq ?_ ?_))))
        refine awp_loop (fun n σ => ∃ (i : Nat) (u : List Ent), i ≤ l.length ∧ n = l.length - i ∧ (A = allR v u (l.drop i) i ∧ RightE u ∧ u.length ≤ 60) ∧ σ = ⟨[(0, entAV u), (1, chgAV l), (2, .v (.int .i64 v)), (9, .v (.int .i64 (i : Int)))], [], C.nh⟩) l.length ⟨0, t, Nat.zero_le _, rfl, ⟨by rw [hE]; rfl, hR, h60⟩, rfl⟩ ?_
        rintro n σ ⟨i, u, hi, rfl, ⟨hA, hRu, hu60⟩, rfl⟩
        by_cases hlt : i < l.length
        · have hr := getRow (f := Chg.row) hlt
          have hraw := a_changeOf u l[i] v hu60 hRu.rise hRu.paths (hcb.each _ (List.getElem_mem _))
          rw [allR_drop hlt] at hA
          have hL : rawL u l[i] v = if rawE u l[i] v = 0 then doneL u l[i] v else [] := rfl
          by_cases hz : rawE u l[i] v = 0
          · have hRn := hRu.done hz
            have hRl := done_60 hz
            rw [if_pos hz] at hA hL
            rw [hL, hz] at hraw
            generalize doneL u l[i] v = U at *
            clear hE hL hz
            repeat' (first | refine walk ?_ | (first | (apply to_call Tryd.func80 rfl rfl; intro hIsFn; refine o_callp hIsFn (hraw ..) ?_)) | ((first | (apply ops_split_t; rfl; rfl; exact nle rfl) | (apply ops_split_f; rfl; rfl; exact nle rfl) | (apply awp_cond; rfl)); all_goals (intro hc; have hp := hc; first | (simp at hp; done) | ((try simp at hp); first | (exfalso; omega) | skip))) | (apply awp_cond_any; rfl))
            all_goals try (exfalso; omega)
            refine ⟨l.length - (i + 1), _, by omega, red_pure (ts := [(0, entAV U), (1, chgAV l), (2, .v (.int .i64 v)), (9, .v (.int .i64 ((i + 1 : Nat) : Int)))]) ?_, i + 1, U, by omega, rfl, ⟨hA, hRn, hRl⟩, rfl⟩
            (repeat (first | exact tsok_nil | refine p_pure ?_ | refine p_eq ?_ ?_))
          · rw [if_neg hz] at hA hL
            rw [hL] at hraw
            rw [hA]
            generalize rawE u l[i] v = E at *
            clear hE hL hA
            repeat' (first | refine walk ?_ | (first | (apply to_call Tryd.func80 rfl rfl; intro hIsFn; refine o_callp hIsFn (hraw ..) ?_)) | ((first | (apply ops_split_t; rfl; rfl; exact nle rfl) | (apply ops_split_f; rfl; rfl; exact nle rfl) | (apply awp_cond; rfl)); all_goals (intro hc; have hp := hc; first | (simp at hp; done) | ((try simp at hp); first | (exfalso; omega) | skip))) | (apply awp_cond_any; rfl))
            all_goals try (exfalso; omega)
            (refine f_pure (rs := [.tmp 6, .tmp 7, .tmp 8]) ?_; (repeat' (first | exact rzl_nil | apply rzl_cons | exact rz_pure rfl | exact rz_ex | exact z_os | apply rz_agg | apply rz_tup | apply rz_clo | apply rz_int | apply rz_bool | apply rz_str | refine z_eq ?_ | apply rz_sl)); all_goals trace_state)
        obtain rfl : i = l.length := by omega
        rw [List.drop_length] at hA
        have hA : A = (u, l.length, 0) := hA
        rw [hA]
        clear hE hA
        repeat' (first | refine walk ?_ | fail | ((first | (apply ops_split_t; rfl; rfl; exact nle rfl) | (apply ops_split_f; rfl; rfl; exact nle rfl) | (apply awp_cond; rfl)); all_goals (intro hc; have hp := hc; first | (simp at hp; done) | ((try simp at hp); first | (exfalso; omega) | skip))) | (apply awp_cond_any; rfl))
        all_goals try (exfalso; omega)
        (refine f_pure (rs := [.tmp 6, .tmp 7, .tmp 8]) ?_; (repeat' (first | exact rzl_nil | apply rzl_cons | exact rz_pure rfl | exact rz_ex | exact z_os | apply rz_agg | apply rz_tup | apply rz_clo | apply rz_int | apply rz_bool | apply rz_str | refine z_eq ?_ | apply rz_sl)); all_goals (rw [List.length_map])))
theorem allT_eq (t : List Ent) (l : List Chg) (v : Int) : allT v t l = if ¬ treeErr t = 0 then ([], 0, treeErr t) else allW t l v := rfl

theorem a_treeBegun : AFn C.P 36 [] (.v (.bool true)) := by
  have h1 : AFn C.P 69 [.sl false [], .agg [.v (.int .i64 1), .v (str [97]), .v (str []), .v (str []), .v (.int .i64 0)], .v (.int .i64 5)] (.tup [entAV [⟨[97], true, [], 5⟩], .v (.int .i64 0)]) := by
    have h := a_apply [] ⟨1, [97], [], [], 0⟩ 5 ⟨by simp, by simp⟩ ⟨by simp, by simp, by simp⟩
    rw [show applyL [] ⟨1, [97], [], [], 0⟩ 5 = [⟨[97], true, [], 5⟩] from by decide +kernel, show applyE [] ⟨1, [97], [], [], 0⟩ 5 = 0 from by decide +kernel] at h
    exact h
  have h2 : AFn C.P 48 [entAV [⟨[97], true, [], 5⟩], .sl false [[.v (.int .i64 2), .v (str [97, 47, 98]), .v (str []), .v (str [120]), .v (.int .i64 (-1))]], .v (.int .i64 6)] (.tup [entAV [⟨[97], true, [], 5⟩, ⟨[97, 47, 98], false, [120], 6⟩], .v (.int .i64 1), .v (.int .i64 0)]) := by
    have h := a_all [⟨[97], true, [], 5⟩] [⟨2, [97, 47, 98], [], [120], -1⟩] 6 ⟨by simp [Ent.small], by simp⟩ ⟨by simp [Chg.small], by simp⟩
    rw [show allT 6 [⟨[97], true, [], 5⟩] [⟨2, [97, 47, 98], [], [120], -1⟩] = ([⟨[97], true, [], 5⟩, ⟨[97, 47, 98], false, [120], 6⟩], 1, 0) from by decide +kernel] at h
    exact h
  refine acall_intro Tryd.func36 rfl _ Tryd.ntmps36 (Nat.le_of_ble_eq_true rfl) _ Tryd.results36 0 rfl rfl ?_
  repeat' (first | refine walk ?_ | (first | (refine o_fzl ?_) | (apply to_call Tryd.func69 rfl rfl; intro hIsFn; refine o_callp hIsFn (h1 ..) ?_) | (apply to_call Tryd.func48 rfl rfl; intro hIsFn; refine o_callp hIsFn (h2 ..) ?_)) | ((first | (apply ops_split_t; rfl; rfl; exact nle rfl) | (apply ops_split_f; rfl; rfl; exact nle rfl) | (apply awp_cond; rfl)); all_goals (intro hc; have hp := hc; first | (simp at hp; done) | ((try simp at hp); first | (exfalso; omega) | skip))) | (apply awp_cond_any; rfl))
  all_goals try (exfalso; simp_all; done)
  all_goals (apply fin_bool; rfl; simp; done)
end Go.Proofs.YtkkfilkmkdnboaaDoor
