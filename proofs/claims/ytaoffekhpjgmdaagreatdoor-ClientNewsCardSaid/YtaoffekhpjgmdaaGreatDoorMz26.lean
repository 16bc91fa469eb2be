import Derived.Test.YtaoffekhpjgmdaaGreatDoorMz13
import Derived.Test.YtaoffekhpjgmdaaGreatDoorMz22
import Derived.Test.YtaoffekhpjgmdaaGreatDoorMz6
/- The reference's Decimal, at every number that is not negative. -/
set_option linter.unusedSimpArgs false
set_option linter.unnecessarySimpa false
set_option linter.unusedVariables false
set_option maxHeartbeats 1000000
namespace Go.Proofs.YtaoffekhpjgmdaaGreatDoor
open Go.Ab Go.RowKit
set_option maxRecDepth 10000
attribute [local irreducible] Awp Ops OpsX Wanted Red ExOk Go.Ab.Fin ACall Rz RzL RzRows Enters ResOk RenV RenVL ArgV ArgVL

theorem dig_small {k : Nat} (h : k < 10) : Lib.decDigits k = [UInt8.ofNat (48 + k)] := by rw [Lib.decDigits, dif_pos h]
theorem dig_big {k : Nat} (h : ¬ k < 10) : Lib.decDigits k = Lib.decDigits (k / 10) ++ [UInt8.ofNat (48 + k % 10)] := by rw [Lib.decDigits, dif_neg h]
theorem dig_len (k : Nat) : (Lib.decDigits k).length ≤ k + 1 := by
  induction k using Nat.strongRecOn with
  | _ k ih =>
    by_cases h : k < 10
    · rw [dig_small h]; simp
    · rw [dig_big h]
      have := ih (k / 10) (by omega)
      simp
      omega
theorem a_decimalN (k : Nat) (hk : k ≤ 2000000) : AFn C.P 32 [.v (.int .i64 (k : Int))] (.v (str (Lib.decDigits k))) := by
  have hB : ∀ n : Nat, (48 + ((n : Nat) : Int)).toNat = 48 + n := fun n => by omega
  refine acall_intro Tryz.func32 rfl _ Tryz.ntmps32 (Nat.le_of_ble_eq_true rfl) _ Tryz.results32 0 rfl rfl ?_
  repeat' (first | refine walk ?_ | fail | ((first | (apply awp_cond; rfl)); all_goals (intro hc; have hp := hc; first | (simp at hp; done) | ((try simp at hp); first | (exfalso; omega) | skip))) | (apply awp_cond_any; rfl))
  all_goals try (exfalso; omega)
  (refine Awp.red (red_pure (ts := [(0, .v (.int .i64 ((k : Nat) : Int))), (3, .v (str ([] : Str)))]) ?_) ?_; ((repeat (first | exact tsok_nil | refine p_pure ?_ | refine p_eq ?_ ?_))))
  refine awp_loop (fun n σ => ∃ (m : Nat) (s : Str), m ≤ 2000000 ∧ n = m + 1 ∧ Lib.decDigits m ++ s = Lib.decDigits k ∧ σ = ⟨[(0, .v (.int .i64 (m : Int))), (3, .v (str s))], [], C.nh⟩) (k + 1) ⟨k, [], hk, rfl, by simp, rfl⟩ ?_
  rintro n σ ⟨m, s, hm, rfl, hd, rfl⟩
  have hsl : s.length ≤ 2000001 := by
    have h1 := congrArg List.length hd
    have h2 := dig_len k
    rw [List.length_append] at h1
    omega
  by_cases h10 : m < 10
  · have hq : m / 10 = 0 := by omega
    have hr : m % 10 = m := by omega
    rw [dig_small h10] at hd
    repeat' (first | refine walk ?_ | (first | (apply opsx_val; apply ex_rem (b := 10); rfl; rfl; decide; exact nle rfl) | (apply opsx_val; apply ex_quo (b := 10); rfl; rfl; decide; omega; exact nle rfl) | (apply opsx_val; apply ex_conv; rfl; rfl; rfl; rfl; rfl; exact IntWalk.u8_in _ (by omega); exact nle rfl) | (refine o_fzl ?_) | (apply opsx_val; apply ex_btos1; rfl; rfl; rfl; rfl; rfl; rfl; rfl; exact nle rfl)) | ((first | (apply awp_cond; rfl)); all_goals (intro hc; have hp := hc; first | (simp at hp; done) | ((try simp at hp); first | (exfalso; omega) | skip))) | (apply awp_cond_any; rfl))
    all_goals try (exfalso; omega)
    (refine f_pure (rs := [.tmp 2]) ?_; (repeat' (first | exact rzl_nil | apply rzl_cons | exact rz_pure rfl | exact rz_ex | exact z_os | apply rz_agg | apply rz_tup | apply rz_clo | apply rz_int | apply rz_bool | apply rz_str | refine z_eq ?_ | apply rz_sl)); all_goals (first | (rw [hr, hB]; exact hd) | (intros; simp_all; done) | trace_state))
  · rw [dig_big h10] at hd
    have hq : ¬ m / 10 = 0 := by omega
    repeat' (first | refine walk ?_ | (first | (apply opsx_val; apply ex_rem (b := 10); rfl; rfl; decide; exact nle rfl) | (apply opsx_val; apply ex_quo (b := 10); rfl; rfl; decide; omega; exact nle rfl) | (apply opsx_val; apply ex_conv; rfl; rfl; rfl; rfl; rfl; exact IntWalk.u8_in _ (by omega); exact nle rfl) | (refine o_fzl ?_) | (apply opsx_val; apply ex_btos1; rfl; rfl; rfl; rfl; rfl; rfl; rfl; exact nle rfl)) | ((first | (apply awp_cond; rfl)); all_goals (intro hc; have hp := hc; first | (simp at hp; done) | ((try simp at hp); first | (exfalso; omega) | skip))) | (apply awp_cond_any; rfl))
    all_goals try (exfalso; omega)
    refine ⟨m / 10 + 1, _, by omega, red_pure (ts := [(0, .v (.int .i64 ((m / 10 : Nat) : Int))), (3, .v (str (UInt8.ofNat (48 + m % 10) :: s)))]) ?_, m / 10, UInt8.ofNat (48 + m % 10) :: s, by omega, rfl, by rw [← hd]; simp, rfl⟩
    ((repeat (first | exact tsok_nil | refine p_pure ?_ | refine p_eq ?_ ?_)); all_goals (first | rfl | (rw [hB]; rfl) | trace_state))
theorem itoa_nat (k : Nat) : Lib.itoa (k : Int) = Lib.decDigits k := by
  unfold Lib.itoa
  rw [if_neg (by omega)]
  simp
end Go.Proofs.YtaoffekhpjgmdaaGreatDoor
