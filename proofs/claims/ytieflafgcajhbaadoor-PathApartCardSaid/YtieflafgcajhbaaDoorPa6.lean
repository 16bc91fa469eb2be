/- Paths in the abstract layer, 6: two digits; TrimRight at a blank; Aside. -/
import Derived.Test.YtieflafgcajhbaaDoorPa5
set_option linter.unusedSimpArgs false
set_option linter.unnecessarySimpa false
set_option maxHeartbeats 1000000
namespace Go.Proofs.YtieflafgcajhbaaDoor
open Go.Ab Go.RowKit
set_option maxRecDepth 10000
attribute [local irreducible] Awp Ops OpsX Wanted Red ExOk Go.Ab.Fin ACall Rz RzL RzRows Enters ResOk RenV RenVL ArgV ArgVL

def digs1 : Str := [48, 49, 50, 51, 52, 53, 54, 55, 56, 57, 97, 98, 99, 100, 101, 102, 103, 104, 105, 106, 107, 108, 109, 110, 111, 112, 113, 114, 115, 116, 117, 118, 119, 120, 121, 122]
def digs2 : Str := [48, 48, 48, 49, 48, 50, 48, 51, 48, 52, 48, 53, 48, 54, 48, 55, 48, 56, 48, 57, 49, 48, 49, 49, 49, 50, 49, 51, 49, 52, 49, 53, 49, 54, 49, 55, 49, 56, 49, 57, 50, 48, 50, 49, 50, 50, 50, 51, 50, 52, 50, 53, 50, 54, 50, 55, 50, 56, 50, 57, 51, 48, 51, 49, 51, 50, 51, 51, 51, 52, 51, 53, 51, 54, 51, 55, 51, 56, 51, 57, 52, 48, 52, 49, 52, 50, 52, 51, 52, 52, 52, 53, 52, 54, 52, 55, 52, 56, 52, 57, 53, 48, 53, 49, 53, 50, 53, 51, 53, 52, 53, 53, 53, 54, 53, 55, 53, 56, 53, 57, 54, 48, 54, 49, 54, 50, 54, 51, 54, 52, 54, 53, 54, 54, 54, 55, 54, 56, 54, 57, 55, 48, 55, 49, 55, 50, 55, 51, 55, 52, 55, 53, 55, 54, 55, 55, 55, 56, 55, 57, 56, 48, 56, 49, 56, 50, 56, 51, 56, 52, 56, 53, 56, 54, 56, 55, 56, 56, 56, 57, 57, 48, 57, 49, 57, 50, 57, 51, 57, 52, 57, 53, 57, 54, 57, 55, 57, 56, 57, 57]
theorem digs1_at : ∀ k : Fin 10, (digs1.take (k.val + 1)).drop k.val = dec2 (k.val : Int) := by decide +kernel
theorem digs2_at : ∀ k : Fin 100, 10 ≤ k.val → (digs2.take (2 * k.val + 2)).drop (2 * k.val) = dec2 (k.val : Int) := by decide +kernel
theorem a_small (k : Nat) (hk : k < 100) : AFn C.P 64 [.v (.int .i64 (k : Int))] (.v (str (dec2 (k : Int)))) := by
  have h1 := fun h : k < 10 => digs1_at ⟨k, h⟩
  have h2 := digs2_at ⟨k, hk⟩
  simp only at h1 h2
  have l1 : digs1.length = 36 := rfl
  have l2 : digs2.length = 200 := rfl
  refine acall_intro Tryd.func64 rfl _ Tryd.ntmps64 (Nat.le_of_ble_eq_true rfl) _ Tryd.results64 0 rfl rfl ?_
  repeat' (first | refine walk ?_ | (first | (apply opsx_val; apply ex_slice_str (l := digs1) (a := k) (b := k + 1); (case hx => rfl); (case hT => rfl); (case he => rfl); (case ha => exact ⟨_, rfl⟩); (case hb => exact ⟨_, rfl⟩); (case hab => omega); (case hbl => omega); (case hN => exact nle rfl)) | (apply opsx_val; apply ex_mul; rfl; rfl; omega; omega; exact nle rfl) | (apply opsx_val; apply ex_slice_str (l := digs2) (a := 2 * k) (b := 2 * k + 2); (case hx => rfl); (case hT => rfl); (case he => rfl); (case ha => exact ⟨_, av_int (by omega)⟩); (case hb => exact ⟨_, av_int (by omega)⟩); (case hab => omega); (case hbl => omega); (case hN => exact nle rfl))) | ((first | (apply awp_cond; rfl)); all_goals (intro hc; have hp := hc; first | (simp at hp; done) | ((try simp at hp); first | (exfalso; omega) | skip))) | (apply awp_cond_any; rfl))
  · (refine f_pure (rs := [.tmp 2]) ?_; (repeat' (first | exact rzl_nil | apply rzl_cons | exact rz_pure rfl | exact rz_ex | exact z_os | apply rz_agg | apply rz_tup | apply rz_clo | apply rz_int | apply rz_bool | apply rz_str | refine z_eq ?_ | apply rz_sl)); all_goals exact h1 (by omega))
  · (refine f_pure (rs := [.tmp 2]) ?_; (repeat' (first | exact rzl_nil | apply rzl_cons | exact rz_pure rfl | exact rz_ex | exact z_os | apply rz_agg | apply rz_tup | apply rz_clo | apply rz_int | apply rz_bool | apply rz_str | refine z_eq ?_ | apply rz_sl)); all_goals exact h2 (by omega))
theorem a_format (k : Nat) (hk : k < 100) : AFn C.P 53 [.v (.int .i64 (k : Int)), .v (.int .i64 10)] (.v (str (dec2 (k : Int)))) := by
  have hs := a_small k hk
  refine acall_intro Tryd.func53 rfl _ Tryd.ntmps53 (Nat.le_of_ble_eq_true rfl) _ Tryd.results53 0 rfl rfl ?_
  repeat' (first | refine walk ?_ | (first | (apply to_call Tryd.func64 rfl rfl; intro hIsFn; refine o_callf hIsFn (hs ..) ?_; skip)) | ((first | (apply ops_split_t; rfl; rfl; exact nle rfl) | (apply ops_split_f; rfl; rfl; exact nle rfl) | (apply awp_cond; rfl)); all_goals (intro hc; have hp := hc; first | (simp at hp; done) | ((try simp at hp); first | (exfalso; omega) | skip))) | (apply awp_cond_any; rfl))
  all_goals try (exfalso; omega)
  (refine f_pure (rs := [.tmp 4]) ?_; (repeat' (first | exact rzl_nil | apply rzl_cons | exact rz_pure rfl | exact rz_ex | exact z_os | apply rz_agg | apply rz_tup | apply rz_clo | apply rz_int | apply rz_bool | apply rz_str | refine z_eq ?_ | apply rz_sl)); all_goals skip)
theorem a_itoaI (k : Nat) (hk : k < 100) : AFn C.P 43 [.v (.int .i64 (k : Int))] (.v (str (dec2 (k : Int)))) := by
  have hs := a_format k hk
  refine acall_intro Tryd.func43 rfl _ Tryd.ntmps43 (Nat.le_of_ble_eq_true rfl) _ Tryd.results43 0 rfl rfl ?_
  repeat' (first | refine walk ?_ | (first | (apply to_call Tryd.func53 rfl rfl; intro hIsFn; refine o_callf hIsFn (hs ..) ?_; skip)) | ((first | (apply awp_cond; rfl)); all_goals (intro hc; have hp := hc; first | (simp at hp; done) | ((try simp at hp); first | (exfalso; omega) | skip))) | (apply awp_cond_any; rfl))
  (refine f_pure (rs := [.tmp 2]) ?_; (repeat' (first | exact rzl_nil | apply rzl_cons | exact rz_pure rfl | exact rz_ex | exact z_os | apply rz_agg | apply rz_tup | apply rz_clo | apply rz_int | apply rz_bool | apply rz_str | refine z_eq ?_ | apply rz_sl)); all_goals skip)
theorem a_itoa2 (k : Nat) (hk : k < 100) : AFn C.P 34 [.v (.int .i64 (k : Int))] (.v (str (dec2 (k : Int)))) := by
  have hs := a_itoaI k hk
  refine acall_intro Tryd.func34 rfl _ Tryd.ntmps34 (Nat.le_of_ble_eq_true rfl) _ Tryd.results34 0 rfl rfl ?_
  repeat' (first | refine walk ?_ | (first | (apply to_call Tryd.func43 rfl rfl; intro hIsFn; refine o_callf hIsFn (hs ..) ?_; skip)) | ((first | (apply awp_cond; rfl)); all_goals (intro hc; have hp := hc; first | (simp at hp; done) | ((try simp at hp); first | (exfalso; omega) | skip))) | (apply awp_cond_any; rfl))
  (refine f_pure (rs := [.tmp 2]) ?_; (repeat' (first | exact rzl_nil | apply rzl_cons | exact rz_pure rfl | exact rz_ex | exact z_os | apply rz_agg | apply rz_tup | apply rz_clo | apply rz_int | apply rz_bool | apply rz_str | refine z_eq ?_ | apply rz_sl)); all_goals skip)

theorem last_snoc {u : Str} (h : u ≠ []) : ∃ v c, u = v ++ [c] ∧ u[u.length - 1]? = some c ∧ u.take (u.length - 1) = v := by
  refine ⟨u.dropLast, u.getLast h, (List.dropLast_concat_getLast h).symm, ?_, by rw [List.dropLast_eq_take]⟩
  rw [List.getLast_eq_getElem, List.getElem?_eq_getElem (by have := List.length_pos_iff.2 h; omega)]
theorem a_trimB (s : Str) (hs : s.length ≤ 140737488355328) : AFn C.P 44 [.v (str s), .v (.int .u8 32)] (.v (str (trimR s))) := by
  refine acall_intro Tryd.func44 rfl _ Tryd.ntmps44 (Nat.le_of_ble_eq_true rfl) _ Tryd.results44 0 rfl rfl ?_
  repeat' (first | refine walk ?_ | fail | ((first | (apply ops_split_t; rfl; rfl; exact nle rfl) | (apply ops_split_f; rfl; rfl; exact nle rfl) | (apply awp_cond; rfl)); all_goals (intro hc; have hp := hc; first | (simp at hp; done) | ((try simp at hp); first | (exfalso; omega) | skip))) | (apply awp_cond_any; rfl))
  (refine Awp.red (red_pure (ts := [(0, .v (str (s.take (s.length - 0)))), (1, .v (.int .u8 32))]) ?_) ?_; ((repeat (first | exact tsok_nil | refine p_pure ?_ | refine p_eq ?_ ?_))))
  all_goals try (simp; done)
  refine awp_loop (fun n σ => ∃ i : Nat, i ≤ s.length ∧ n = s.length - i ∧ (trimR s = trimR (s.take (s.length - i))) ∧ σ = ⟨[(0, .v (str (s.take (s.length - i)))), (1, .v (.int .u8 32))], [], C.nh⟩) s.length ⟨0, Nat.zero_le _, rfl, (by simp), rfl⟩ ?_
  rintro n σ ⟨i, hi, rfl, hsofar, rfl⟩
  have hul : (s.take (s.length - i)).length = s.length - i := by simp
  by_cases hlt : i < s.length
  · have hnx : (s.take (s.length - i)).take ((s.take (s.length - i)).length - 1) = s.take (s.length - (i + 1)) := by rw [hul, List.take_take]; congr 1; omega
    generalize s.take (s.length - i) = u at hul hsofar hnx ⊢
    have hne : u ≠ [] := fun e => by subst e; simp at hul; omega
    obtain ⟨v, c, huv, hch, hv⟩ := last_snoc hne
    have htr := trimR_snoc v c
    rw [← huv] at htr
    repeat' (first | refine walk ?_ | (first | (apply opsx_val; apply ex_index_str (i := u.length - 1); (case hx => rfl); (case hy => exact av_int (by omega)); (case hT => rfl); (case he => rfl); (case hc => exact hch); (case hN => exact nle rfl)) | (apply opsx_val; apply ex_slice_str (a := 0) (b := u.length - 1); (case hx => rfl); (case hT => rfl); (case he => rfl); (case ha => rfl); (case hb => exact ⟨_, av_int (by omega)⟩); (case hab => (first | omega | (simp; done) | (simp only [List.length_cons, List.length_nil, List.length_map]; omega) | (simp; omega))); (case hbl => (first | omega | (simp; done) | (simp only [List.length_cons, List.length_nil, List.length_map]; omega) | (simp; omega))); (case hN => exact nle rfl))) | ((first | (apply ops_split_t; rfl; rfl; exact nle rfl) | (apply ops_split_f; rfl; rfl; exact nle rfl) | (apply awp_cond; rfl)); all_goals (intro hc; have hp := hc; first | (simp at hp; done) | ((try simp at hp); first | (exfalso; omega) | skip))) | (apply awp_cond_any; rfl))
    all_goals try (exfalso; omega)
    all_goals try (exfalso; exact hne (by assumption))
    · have hc32 : c = 32 := UInt8.toNat.inj (by show c.toNat = 32; omega)
      rw [if_pos hc32] at htr
      have hcond : trimR s = trimR (s.take (s.length - (i + 1))) := by rw [hsofar, htr, ← hnx, hv]
      refine ⟨s.length - (i + 1), _, by omega, red_pure (ts := [(0, .v (str (s.take (s.length - (i + 1))))), (1, .v (.int .u8 32))]) ?_, i + 1, by omega, rfl, hcond, rfl⟩; ((repeat (first | exact tsok_nil | refine p_pure ?_ | refine p_eq ?_ ?_)); all_goals (rw [← hnx]; rfl))
    · have hc32 : ¬ c = 32 := fun e => by subst e; simp at hp
      rw [if_neg hc32] at htr
      (refine f_pure (rs := [.tmp 4]) ?_; (repeat' (first | exact rzl_nil | apply rzl_cons | exact rz_pure rfl | exact rz_ex | exact z_os | apply rz_agg | apply rz_tup | apply rz_clo | apply rz_int | apply rz_bool | apply rz_str | refine z_eq ?_ | apply rz_sl)); all_goals (rw [hsofar, htr]))
  obtain rfl : i = s.length := by omega
  simp only [Nat.sub_self, List.take_zero] at hsofar ⊢
  repeat' (first | refine walk ?_ | fail | ((first | (apply ops_split_t; rfl; rfl; exact nle rfl) | (apply ops_split_f; rfl; rfl; exact nle rfl) | (apply awp_cond; rfl)); all_goals (intro hc; have hp := hc; first | (simp at hp; done) | ((try simp at hp); first | (exfalso; omega) | skip))) | (apply awp_cond_any; rfl))
  all_goals try (exfalso; omega)
  (refine f_pure (rs := [.tmp 4]) ?_; (repeat' (first | exact rzl_nil | apply rzl_cons | exact rz_pure rfl | exact rz_ex | exact z_os | apply rz_agg | apply rz_tup | apply rz_clo | apply rz_int | apply rz_bool | apply rz_str | refine z_eq ?_ | apply rz_sl)); all_goals (rw [hsofar]; rfl))
theorem a_trim (s : Str) (hs : s.length ≤ 140737488355328) : AFn C.P 35 [.v (str s), .v (str [32])] (.v (str (trimR s))) := by
  have hb := a_trimB s hs
  refine acall_intro Tryd.func35 rfl _ Tryd.ntmps35 (Nat.le_of_ble_eq_true rfl) _ Tryd.results35 0 rfl rfl ?_
  repeat' (first | refine walk ?_ | (first | (apply to_call Tryd.func44 rfl rfl; intro hIsFn; refine o_callf hIsFn (hb ..) ?_; skip)) | ((first | (apply ops_split_t; rfl; rfl; exact nle rfl) | (apply ops_split_f; rfl; rfl; exact nle rfl) | (apply awp_cond; rfl)); all_goals (intro hc; have hp := hc; first | (simp at hp; done) | ((try simp at hp); first | (exfalso; omega) | skip))) | (apply awp_cond_any; rfl))
  all_goals try (exfalso; simp_all; done)
  all_goals ((refine f_pure (rs := [.tmp 4]) ?_; (repeat' (first | exact rzl_nil | apply rzl_cons | exact rz_pure rfl | exact rz_ex | exact z_os | apply rz_agg | apply rz_tup | apply rz_clo | apply rz_int | apply rz_bool | apply rz_str | refine z_eq ?_ | apply rz_sl)); all_goals (first | (have e : s = [] := (by assumption); subst e; rfl) | rfl)))
end Go.Proofs.YtieflafgcajhbaaDoor
