/- The law DeltaBack, walked. -/
import Derived.Test.YtpeenheeakhlgaaDoorTw4
import Derived.Test.YtpeenheeakhlgaaDoorTv3
set_option linter.unusedSimpArgs false
set_option linter.unnecessarySimpa false
set_option linter.unusedVariables false
set_option maxHeartbeats 1000000
namespace Go.Proofs.YtpeenheeakhlgaaDoor
open Go.Ab Go.RowKit
set_option maxRecDepth 10000
attribute [local irreducible] Awp Ops OpsX Wanted Red ExOk Go.Ab.Fin ACall Rz RzL RzRows Enters ResOk RenV RenVL ArgV ArgVL

theorem raw_small {a b : List Ent} (ha : Right a) (hb : Right b) : CBig (rawD a b) := by
  have hl := raw_len ha hb
  refine ⟨fun c hc => ?_, by omega⟩
  unfold rawD at hc
  rcases List.mem_append.1 hc with h | h
  · obtain ⟨p, hp, rfl⟩ := List.mem_map.1 h
    rcases gones_sub b a [] p hp with h0 | ⟨z, hz, hzp, _⟩
    · cases h0
    · have := pathErr_small (entErr_zero (ha.ent z hz)).1
      rw [hzp] at this
      exact ⟨by show p.length ≤ _; omega, by show ([] : Str).length ≤ _; simp, by show ([] : Str).length ≤ _; simp⟩
  · obtain ⟨x, hx, rfl⟩ := List.mem_map.1 h
    have h1 := entErr_zero (hb.ent x (List.mem_filter.1 hx).1)
    have := pathErr_small h1.1
    have := h1.2.2.1
    exact ⟨by show x.path.length ≤ _; omega, by show ([] : Str).length ≤ _; simp, by show x.text.length ≤ _; omega⟩
theorem law_dback (a b : List Ent) (w : Int) (ha : EBig a) (hb : EBig b) (hw : -9223372036854775808 ≤ w ∧ w ≤ 9223372036854775807) : AFn C.P 13 [entAV a, entAV b, .v (.int .i64 w)] (.v (.bool true)) := by
  have h1 := a_diff a b ha hb
  by_cases hz : twoErr a b = 0
  · obtain ⟨ta, tb⟩ := twoErr_zero.1 hz
    have hRa := right_iff.1 ta
    have hRb := right_iff.1 tb
    have h2 := a_same a b ha hb
    have hch : AFn C.P 31 [.v (.int .i64 w), .v (.int .i64 1000000)] (.v (.int .i64 ((chooseN w 1000000 : Nat) : Int))) := a_choose w 1000000 (by omega) hw
    have hcb : chooseN w 1000000 < 1000000 := by unfold chooseN; exact Nat.mod_lt _ (by omega)
    generalize chooseN w 1000000 = bb at *
    have hv : isVer (1 + (bb : Int)) = true := by unfold isVer; simp; omega
    obtain ⟨t, hp, hRt, hlk⟩ := patch_back (v := 1 + (bb : Int)) hRa hRb hv
    have h3 := a_patch a (rawD a b) (1 + (bb : Int)) ha (raw_small hRa hRb)
    have hln := raw_len hRa hRb
    have hpt : patchT (1 + (bb : Int)) a (rawD a b) = (t, 0) := by
      unfold patchT
      rw [if_neg (by simp [ta]), if_neg (by omega), hp]
    rw [hpt] at h3
    have h3 : AFn C.P 36 [entAV a, chgAV (rawD a b), .v (.int .i64 (1 + (bb : Int)))] (.tup [entAV t, .v (.int .i64 0)]) := h3
    have h4 := a_same t b hRt.big hb
    have hz2 : twoErr t b = 0 := twoErr_zero.2 ⟨right_iff.2 hRt, tb⟩
    rw [hz2, hlk] at h4
    have h4 : AFn C.P 19 [entAV t, entAV b] (.tup [.v (.bool true), .v (.int .i64 0)]) := h4
    have hno := raw_none hRa hRb
    rw [hz, hno] at h2
    rw [hz, show diffL a b = rawD a b from if_pos hz] at h1
    generalize rawD a b = L at *
    have h2 : AFn C.P 19 [entAV a, entAV b] (.tup [.v (.bool (decide (L = []))), .v (.int .i64 0)]) := h2
    have hml : (L.map Chg.row).length = L.length := List.length_map ..
    have hLe : decide (L = []) = decide (((L.map Chg.row).length : Int) = 0) := by
      rw [hml]; cases L <;> simp; omega
    rw [hLe] at h2
    clear hLe hno hp hpt
    refine acall_intro Tryd.func13 rfl _ Tryd.ntmps13 (Nat.le_of_ble_eq_true rfl) _ Tryd.results13 0 rfl rfl ?_
    repeat' (first | refine walk ?_ | (first | (apply to_call Tryd.func17 rfl rfl; intro hIsFn; refine o_callf hIsFn (a_dbegun ..) ?_; skip) | (apply to_call Tryd.func14 rfl rfl; intro hIsFn; refine o_callp hIsFn (h1 ..) ?_) | (apply to_call Tryd.func19 rfl rfl; intro hIsFn; refine o_callp hIsFn (h2 ..) ?_) | (apply to_call Tryd.func31 rfl rfl; intro hIsFn; refine o_callf hIsFn (hch ..) ?_; skip) | (apply to_call Tryd.func36 rfl rfl; intro hIsFn; refine o_callp hIsFn (h3 ..) ?_) | (apply to_call Tryd.func19 rfl rfl; intro hIsFn; refine o_callp hIsFn (h4 ..) ?_) | (refine o_beq ?_)) | ((first | (apply ops_split_t; rfl; rfl; exact nle rfl) | (apply ops_split_f; rfl; rfl; exact nle rfl) | (apply awp_cond; rfl)); all_goals (intro hc; have hp := hc; first | (simp at hp; done) | ((try simp at hp); first | (exfalso; omega) | skip))) | (apply awp_cond_any; rfl))
    all_goals try (exfalso; first | omega | (simp_all; done))
    all_goals (apply fin_bool; rfl; simp; done)
  · rw [show diffL a b = [] from if_neg hz] at h1
    generalize twoErr a b = E at *
    refine acall_intro Tryd.func13 rfl _ Tryd.ntmps13 (Nat.le_of_ble_eq_true rfl) _ Tryd.results13 0 rfl rfl ?_
    repeat' (first | refine walk ?_ | (first | (apply to_call Tryd.func17 rfl rfl; intro hIsFn; refine o_callf hIsFn (a_dbegun ..) ?_; skip) | (apply to_call Tryd.func14 rfl rfl; intro hIsFn; refine o_callp hIsFn (h1 ..) ?_)) | ((first | (apply ops_split_t; rfl; rfl; exact nle rfl) | (apply ops_split_f; rfl; rfl; exact nle rfl) | (apply awp_cond; rfl)); all_goals (intro hc; have hp := hc; first | (simp at hp; done) | ((try simp at hp); first | (exfalso; omega) | skip))) | (apply awp_cond_any; rfl))
    all_goals try (exfalso; first | omega | (simp_all; done))
    all_goals (apply fin_bool; rfl; simp; done)
theorem law_dback_all (ys : List AV) (h : TyAllW C.tab 140737488355328 [22, 22, 3] ys) : AFn C.P 13 ys (.v (.bool true)) := by
  obtain ⟨_, _, rfl, h0, _, _, rfl, h1, _, _, rfl, h2, rfl⟩ := h
  obtain ⟨a, rfl, ha⟩ := tyv_ents h0
  obtain ⟨b, rfl, hb⟩ := tyv_ents h1
  obtain ⟨w, rfl, hw⟩ := tyv_int h2
  exact law_dback a b w ha hb (wf_bd hw)
end Go.Proofs.YtpeenheeakhlgaaDoor
