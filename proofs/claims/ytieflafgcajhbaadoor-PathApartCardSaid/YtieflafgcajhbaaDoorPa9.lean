/- Paths in the abstract layer, 9: the reference's PathOf, ParentOf, LastOf, Joined, IsIn. -/
import Derived.Test.YtieflafgcajhbaaDoorPa8
set_option linter.unusedSimpArgs false
set_option linter.unnecessarySimpa false
set_option maxHeartbeats 1000000
namespace Go.Proofs.YtieflafgcajhbaaDoor
open Go.Ab Go.RowKit
set_option maxRecDepth 10000
attribute [local irreducible] Awp Ops OpsX Wanted Red ExOk Go.Ab.Fin ACall Rz RzL RzRows Enters ResOk RenV RenVL ArgV ArgVL

theorem pathOf_take (l : List Str) (i : Nat) : (pathOf (l.take i)).length ≤ (pathOf l).length := by
  by_cases h1 : l.take i = []
  · rw [h1]; simp [pathOf]
  · by_cases h2 : l.drop i = []
    · have := List.take_append_drop i l
      rw [h2, List.append_nil] at this
      rw [this]; exact Nat.le_refl _
    · have h3 := pathOf_app h1 h2
      rw [List.take_append_drop] at h3
      rw [h3]; simp
theorem pathOf_mem {l : List Str} {i : Nat} (h : i < l.length) : l[i].length ≤ (pathOf l).length := by
  have h1 := pathOf_take l (i + 1)
  by_cases h0 : i = 0
  · subst h0
    rw [pathOf_first h] at h1; exact h1
  · rw [pathOf_succ h (by omega)] at h1
    simp at h1; omega
theorem a_pathOf (l : List Str) (hl : l.length ≤ 8000000000) (hp : (pathOf l).length ≤ 8000000000) : AFn C.P 29 [.sl false (l.map strRow)] (.v (str (pathOf l))) := by
  refine acall_intro Tryd.func29 rfl _ Tryd.ntmps29 (Nat.le_of_ble_eq_true rfl) _ Tryd.results29 0 rfl rfl ?_
  repeat' (first | refine walk ?_ | fail | ((first | (apply awp_cond; rfl)); all_goals (intro hc; have hp := hc; first | (simp at hp; done) | ((try simp at hp); first | (exfalso; omega) | skip))) | (apply awp_cond_any; rfl))
  (refine Awp.red (red_pure (ts := [(0, .sl false (l.map strRow)), (3, .v (str (pathOf (l.take 0)))), (4, .v (.int .i64 ((0 : Nat) : Int)))]) ?_) ?_; ((repeat (first | exact tsok_nil | refine p_pure ?_ | refine p_eq ?_ ?_))))
  refine awp_loop (fun n σ => ∃ i : Nat, i ≤ l.length ∧ n = l.length - i ∧ (True) ∧ σ = ⟨[(0, .sl false (l.map strRow)), (3, .v (str (pathOf (l.take i)))), (4, .v (.int .i64 (i : Int)))], [], C.nh⟩) l.length ⟨0, Nat.zero_le _, rfl, trivial, rfl⟩ ?_
  rintro n σ ⟨i, hi, rfl, -, rfl⟩
  by_cases hlt : i < l.length
  · have hr := getRow (f := strRow) hlt
    have hb1 := pathOf_take l i
    have hb2 := pathOf_mem hlt
    have hs0 := @pathOf_succ l i hlt
    have hf0 := @pathOf_first l (by omega)
    repeat' (first | refine walk ?_ | (first | (apply opsx_val; apply ex_sadd; rfl; rfl; (simp only [List.length_append, List.length_cons, List.length_nil]; omega); exact nle rfl)) | ((first | (apply awp_cond; rfl)); all_goals (intro hc; have hp := hc; first | (simp at hp; done) | ((try simp at hp); first | (exfalso; omega) | skip))) | (apply awp_cond_any; rfl))
    all_goals try (exfalso; omega)
    · refine ⟨l.length - (i + 1), _, by omega, red_pure (ts := [(0, .sl false (l.map strRow)), (3, .v (str (pathOf (l.take (i + 1))))), (4, .v (.int .i64 ((i + 1 : Nat) : Int)))]) ?_, i + 1, by omega, rfl, trivial, rfl⟩; ((repeat (first | exact tsok_nil | refine p_pure ?_ | refine p_eq ?_ ?_)); all_goals (rw [hs0 (by omega)]))
    · have h0 : i = 0 := by omega
      have hf1 : pathOf (l.take (i + 1)) = l[i] := by subst h0; exact hf0
      refine ⟨l.length - (i + 1), _, by omega, red_pure (ts := [(0, .sl false (l.map strRow)), (3, .v (str (pathOf (l.take (i + 1))))), (4, .v (.int .i64 ((i + 1 : Nat) : Int)))]) ?_, i + 1, by omega, rfl, trivial, rfl⟩; ((repeat (first | exact tsok_nil | refine p_pure ?_ | refine p_eq ?_ ?_)); all_goals (rw [hf1]; subst h0; rfl))
  obtain rfl : i = l.length := by omega
  rw [List.take_length]
  repeat' (first | refine walk ?_ | fail | ((first | (apply awp_cond; rfl)); all_goals (intro hc; have hp := hc; first | (simp at hp; done) | ((try simp at hp); first | (exfalso; omega) | skip))) | (apply awp_cond_any; rfl))
  all_goals try (exfalso; omega)
  (refine f_pure (rs := [.tmp 2]) ?_; (repeat' (first | exact rzl_nil | apply rzl_cons | exact rz_pure rfl | exact rz_ex | exact z_os | apply rz_agg | apply rz_tup | apply rz_clo | apply rz_int | apply rz_bool | apply rz_str | refine z_eq ?_ | apply rz_sl)); all_goals skip)
theorem names_pos (p : Str) : 0 < (namesOf p).length := List.length_pos_iff.2 (namesOf_ne p)
theorem a_joinedR (p n : Str) (hp : p.length ≤ 140737488355328) (hn : n.length ≤ 1407374883553280) : AFn C.P 26 [.v (str p), .v (str n)] (.v (str (joinOf p n))) := by
  refine acall_intro Tryd.func26 rfl _ Tryd.ntmps26 (Nat.le_of_ble_eq_true rfl) _ Tryd.results26 0 rfl rfl ?_
  repeat' (first | refine walk ?_ | fail | ((first | (apply awp_cond; rfl)); all_goals (intro hc; have hp := hc; first | (simp at hp; done) | ((try simp at hp); first | (exfalso; omega) | skip))) | (apply awp_cond_any; rfl))
  · (refine f_pure (rs := [.tmp 4]) ?_; (repeat' (first | exact rzl_nil | apply rzl_cons | exact rz_pure rfl | exact rz_ex | exact z_os | apply rz_agg | apply rz_tup | apply rz_clo | apply rz_int | apply rz_bool | apply rz_str | refine z_eq ?_ | apply rz_sl)); all_goals (simp_all [joinOf]))
  · (refine f_pure (rs := [.tmp 4]) ?_; (repeat' (first | exact rzl_nil | apply rzl_cons | exact rz_pure rfl | exact rz_ex | exact z_os | apply rz_agg | apply rz_tup | apply rz_clo | apply rz_int | apply rz_bool | apply rz_str | refine z_eq ?_ | apply rz_sl)); all_goals (simp_all [joinOf]))
end Go.Proofs.YtieflafgcajhbaaDoor
