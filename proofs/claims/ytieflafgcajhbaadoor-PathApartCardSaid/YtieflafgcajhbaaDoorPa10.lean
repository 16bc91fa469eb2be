/- Paths in the abstract layer, 10: the reference's Decimal and AsideOf. -/
import Derived.Test.YtieflafgcajhbaaDoorPa9
set_option linter.unusedSimpArgs false
set_option linter.unnecessarySimpa false
set_option maxHeartbeats 1000000
namespace Go.Proofs.YtieflafgcajhbaaDoor
open Go.Ab Go.RowKit
set_option maxRecDepth 10000
attribute [local irreducible] Awp Ops OpsX Wanted Red ExOk Go.Ab.Fin ACall Rz RzL RzRows Enters ResOk RenV RenVL ArgV ArgVL

def decX (k i : Nat) : Nat := if i = 0 then k else k / 10
def decS (k i : Nat) : Str := if i = 0 then [] else [UInt8.ofNat (48 + ((k % 10 : Nat) : Int)).toNat]
theorem toNat48 (k : Nat) : (48 + (k : Int)).toNat = 48 + k := by omega
theorem a_decimal (k : Nat) (hk : k < 100) : AFn C.P 38 [.v (.int .i64 (k : Int))] (.v (str (dec2 (k : Int)))) := by
  refine acall_intro Tryd.func38 rfl _ Tryd.ntmps38 (Nat.le_of_ble_eq_true rfl) _ Tryd.results38 0 rfl rfl ?_
  repeat' (first | refine walk ?_ | fail | ((first | (apply awp_cond; rfl)); all_goals (intro hc; have hp := hc; first | (simp at hp; done) | ((try simp at hp); first | (exfalso; omega) | skip))) | (apply awp_cond_any; rfl))
  all_goals try (exfalso; omega)
  (refine Awp.red (red_pure (ts := [(0, .v (.int .i64 ((decX k 0 : Nat) : Int))), (3, .v (str (decS k 0)))]) ?_) ?_; ((repeat (first | exact tsok_nil | refine p_pure ?_ | refine p_eq ?_ ?_))))
  refine awp_loop (fun n σ => ∃ i : Nat, i ≤ [(), ()].length ∧ n = [(), ()].length - i ∧ (i = 0 ∨ (i = 1 ∧ 10 ≤ k)) ∧ σ = ⟨[(0, .v (.int .i64 ((decX k i : Nat) : Int))), (3, .v (str (decS k i)))], [], C.nh⟩) [(), ()].length ⟨0, Nat.zero_le _, rfl, (.inl rfl), rfl⟩ ?_
  rintro n σ ⟨i, hi, rfl, hsofar, rfl⟩
  rcases hsofar with rfl | ⟨rfl, hk10⟩
  · rw [show decX k 0 = k from rfl, show decS k 0 = [] from rfl]
    repeat' (first | refine walk ?_ | (first | (apply opsx_val; apply ex_rem (b := 10); rfl; rfl; decide; exact nle rfl) | (apply opsx_val; apply ex_quo (b := 10); rfl; rfl; decide; omega; exact nle rfl) | (apply opsx_val; apply ex_conv; rfl; rfl; rfl; rfl; rfl; exact IntWalk.u8_in _ (by omega); exact nle rfl) | (refine o_fzl ?_) | (apply opsx_val; apply ex_btos1; rfl; rfl; rfl; rfl; rfl; rfl; rfl; exact nle rfl)) | ((first | (apply awp_cond; rfl)); all_goals (intro hc; have hp := hc; first | (simp at hp; done) | ((try simp at hp); first | (exfalso; omega) | skip))) | (apply awp_cond_any; rfl))
    all_goals try (exfalso; omega)
    · have h10 : k % 10 = k := Nat.mod_eq_of_lt (by omega)
      have hd : dec2 (k : Int) = [UInt8.ofNat (48 + k)] := by unfold dec2; rw [if_pos (by omega)]; simp
      (refine f_pure (rs := [.tmp 2]) ?_; (repeat' (first | exact rzl_nil | apply rzl_cons | exact rz_pure rfl | exact rz_ex | exact z_os | apply rz_agg | apply rz_tup | apply rz_clo | apply rz_int | apply rz_bool | apply rz_str | refine z_eq ?_ | apply rz_sl)); all_goals (rw [hd, h10, toNat48]; rfl))
    · have hkk : 10 ≤ k := by omega
      refine ⟨1, _, by decide, red_pure (ts := [(0, .v (.int .i64 ((decX k 1 : Nat) : Int))), (3, .v (str (decS k 1)))]) ?_, 1, by decide, rfl, .inr ⟨rfl, hkk⟩, rfl⟩
      ((repeat (first | exact tsok_nil | refine p_pure ?_ | refine p_eq ?_ ?_)); all_goals (first | rfl | (rw [List.append_nil]; rfl)))
  · rw [show decX k 1 = k / 10 from rfl, show decS k 1 = [UInt8.ofNat (48 + ((k % 10 : Nat) : Int)).toNat] from rfl]
    repeat' (first | refine walk ?_ | (first | (apply opsx_val; apply ex_rem (b := 10); rfl; rfl; decide; exact nle rfl) | (apply opsx_val; apply ex_quo (b := 10); rfl; rfl; decide; omega; exact nle rfl) | (apply opsx_val; apply ex_conv; rfl; rfl; rfl; rfl; rfl; exact IntWalk.u8_in _ (by omega); exact nle rfl) | (refine o_fzl ?_) | (apply opsx_val; apply ex_btos1; rfl; rfl; rfl; rfl; rfl; rfl; rfl; exact nle rfl)) | ((first | (apply awp_cond; rfl)); all_goals (intro hc; have hp := hc; first | (simp at hp; done) | ((try simp at hp); first | (exfalso; omega) | skip))) | (apply awp_cond_any; rfl))
    all_goals try (exfalso; omega)
    have h10 : k / 10 % 10 = k / 10 := Nat.mod_eq_of_lt (by omega)
    have hd : dec2 (k : Int) = [UInt8.ofNat (48 + k / 10), UInt8.ofNat (48 + k % 10)] := by unfold dec2; rw [if_neg (by omega)]; simp
    (refine f_pure (rs := [.tmp 2]) ?_; (repeat' (first | exact rzl_nil | apply rzl_cons | exact rz_pure rfl | exact rz_ex | exact z_os | apply rz_agg | apply rz_tup | apply rz_clo | apply rz_int | apply rz_bool | apply rz_str | refine z_eq ?_ | apply rz_sl)); all_goals (rw [hd, h10, toNat48, toNat48]; rfl))

theorem lastIdx_snoc (c x : UInt8) : ∀ (s : Str), lastIdx c (s ++ [x]) = if x = c then (s.length : Int) else lastIdx c s
  | [] => by
    by_cases h : x = c <;> simp [lastIdx, h]
  | y :: s => by
    have ih := lastIdx_snoc c x s
    simp only [List.cons_append, lastIdx, ih]
    by_cases h : x = c
    · simp only [h, if_true]
      rw [if_pos (by omega)]; simp
    · simp only [h, if_false]
/-- Where the last dot stands behind the first byte, of the first bytes; else the length. -/
def atN (s : Str) (i : Nat) : Nat := if 0 < lastIdx 46 (s.take i) then (lastIdx 46 (s.take i)).toNat else s.length
theorem atN_one (s : Str) : atN s 1 = s.length := by
  unfold atN
  have : (s.take 1).length ≤ 1 := by rw [List.length_take]; omega
  have := lastIdx_bd 46 (s.take 1)
  rw [if_neg (by omega)]
theorem atN_dot {s : Str} {i : Nat} (h : i < s.length) (h0 : 0 < i) (hc : s[i] = 46) : atN s (i + 1) = i := by
  unfold atN
  rw [List.take_succ_eq_append_getElem h, lastIdx_snoc, if_pos hc, List.length_take, Nat.min_eq_left (by omega)]
  rw [if_pos (by omega)]; omega
theorem atN_other {s : Str} {i : Nat} (h : i < s.length) (hc : ¬ s[i] = 46) : atN s (i + 1) = atN s i := by
  unfold atN
  rw [List.take_succ_eq_append_getElem h, lastIdx_snoc, if_neg hc]
theorem atN_le (s : Str) (i : Nat) : atN s i ≤ s.length := by
  unfold atN
  split
  · have h1 := lastIdx_bd 46 (s.take i)
    have h2 : (s.take i).length ≤ s.length := by rw [List.length_take]; omega
    omega
  · exact Nat.le_refl _
theorem atN_all {s : Str} {i : Nat} (h : s.length ≤ i) : s.take (atN s i) = stemOf s ∧ (s.take s.length).drop (atN s i) = endOf s := by
  unfold atN stemOf endOf
  rw [List.take_of_length_le h, List.take_length]
  by_cases h0 : 0 < lastIdx 46 s
  · simp [h0]
  · simp [h0]
end Go.Proofs.YtieflafgcajhbaaDoor
