import Derived.Test.YtkkfilkmkdnboaaDoorMz17
/- The reference's SameChanges. -/
set_option linter.unusedSimpArgs false
set_option linter.unnecessarySimpa false
set_option linter.unusedVariables false
set_option maxHeartbeats 1000000
namespace Go.Proofs.YtkkfilkmkdnboaaDoor
open Go.Ab Go.RowKit
set_option maxRecDepth 10000
attribute [local irreducible] Awp Ops OpsX Wanted Red ExOk Go.Ab.Fin ACall Rz RzL RzRows Enters ResOk RenV RenVL ArgV ArgVL

theorem eqK_chg : eqKs C.P 88 = some [0, 1, 1, 1, 0] := by kernel_rfl
theorem rowEq_chg (a b : Chg) : rowEq [0, 1, 1, 1, 0] a.row b.row = some (decide (a = b)) := by
  obtain ⟨a1, a2, a3, a4, a5⟩ := a
  obtain ⟨b1, b2, b3, b4, b5⟩ := b
  simp only [Chg.row, rowEq, cellEq, str, Chg.mk.injEq, if_true, Option.some.injEq]
  by_cases h1 : a1 = b1 <;> by_cases h2 : a2 = b2 <;> by_cases h3 : a3 = b3 <;> by_cases h4 : a4 = b4 <;> by_cases h5 : a5 = b5 <;> simp [h1, h2, h3, h4, h5]
theorem a_sameChanges (a b : List Chg) (ha : a.length ≤ 140737488355328) (hb : b.length ≤ 140737488355328) : AFn C.P 81 [chgAV a, chgAV b] (.v (.bool (decide (a = b)))) := by
  have hma : (a.map Chg.row).length = a.length := List.length_map ..
  have hmb : (b.map Chg.row).length = b.length := List.length_map ..
  refine acall_intro Tryd.func81 rfl _ Tryd.ntmps81 (Nat.le_of_ble_eq_true rfl) _ Tryd.results81 0 rfl rfl ?_
  repeat' (first | refine walk ?_ | fail | ((first | (apply awp_cond; rfl)); all_goals (intro hc; have hp := hc; first | (simp at hp; done) | ((try simp at hp); first | (exfalso; omega) | skip))) | (apply awp_cond_any; rfl))
  · apply fin_bool
    rfl
    have hne : ¬ a = b := fun e => by subst e; simp at *
    simp [hne]
  have hab : a.length = b.length := by simp at *; omega
  (refine Awp.red (red_pure (ts := [(0, chgAV a), (1, chgAV b), (5, .v (.int .i64 ((0 : Nat) : Int)))]) ?_) ?_; ((repeat (first | exact tsok_nil | refine p_pure ?_ | refine p_eq ?_ ?_))))
  refine awp_loop (fun n σ => ∃ i : Nat, i ≤ a.length ∧ n = a.length - i ∧ (a.take i = b.take i) ∧ σ = ⟨[(0, chgAV a), (1, chgAV b), (5, .v (.int .i64 (i : Int)))], [], C.nh⟩) a.length ⟨0, Nat.zero_le _, rfl, rfl, rfl⟩ ?_
  rintro n σ ⟨i, hi, rfl, hsofar, rfl⟩
  by_cases hlt : i < a.length
  · have hlt2 : i < b.length := by omega
    have hr := getRow (f := Chg.row) hlt
    have hr' := getRow (f := Chg.row) hlt2
    have hnx := take_same hlt hlt2 hsofar
    repeat' (first | refine walk ?_ | (first | (apply opsx_val; apply ex_rowEq; rfl; rfl; exact eqK_chg; exact rowEq_chg _ _; (first | exact .inl ⟨rfl, rfl⟩ | exact .inr ⟨rfl, rfl⟩); exact nle rfl)) | ((first | (apply awp_cond; rfl)); all_goals (intro hc; have hp := hc; first | (simp at hp; done) | ((try simp at hp); first | (exfalso; omega) | skip))) | (apply awp_cond_any; rfl))
    all_goals try (exfalso; omega)
    · apply fin_bool
      rfl
      have hne : ¬ a = b := fun e => by subst e; simp at *
      simp [hne]
    · refine ⟨a.length - (i + 1), _, by omega, red_pure (ts := [(0, chgAV a), (1, chgAV b), (5, .v (.int .i64 ((i + 1 : Nat) : Int)))]) ?_, i + 1, by omega, rfl, (hnx (by simp_all)), rfl⟩; ((repeat (first | exact tsok_nil | refine p_pure ?_ | refine p_eq ?_ ?_)))
  obtain rfl : i = a.length := by omega
  have he : a = b := by rw [List.take_length] at hsofar; rw [hsofar, hab, List.take_length]
  repeat' (first | refine walk ?_ | fail | ((first | (apply awp_cond; rfl)); all_goals (intro hc; have hp := hc; first | (simp at hp; done) | ((try simp at hp); first | (exfalso; omega) | skip))) | (apply awp_cond_any; rfl))
  all_goals try (exfalso; omega)
  apply fin_bool
  rfl
  simp [he]
end Go.Proofs.YtkkfilkmkdnboaaDoor
