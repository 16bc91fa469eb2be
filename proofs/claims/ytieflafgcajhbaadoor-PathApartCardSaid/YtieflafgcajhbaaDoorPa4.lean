/- Paths in the abstract layer, 4: the last sign; Split, Parent, Name, Join, In, Within, Moved. -/
import Derived.Test.YtieflafgcajhbaaDoorPa3
import Derived.Test.YtieflafgcajhbaaDoorLyD
set_option linter.unusedSimpArgs false
set_option linter.unnecessarySimpa false
set_option maxHeartbeats 1000000
namespace Go.Proofs.YtieflafgcajhbaaDoor
open Go.Ab Go.RowKit
set_option maxRecDepth 10000
attribute [local irreducible] Awp Ops OpsX Wanted Red ExOk Go.Ab.Fin ACall Rz RzL RzRows Enters ResOk RenV RenVL ArgV ArgVL

theorem a_lastB (s : Str) (c : UInt8) (hs : s.length ≤ 9223372036854775807) : AFn C.P 42 [.v (str s), .v (.int .u8 (c.toNat : Int))] (.v (.int .i64 (lastIdx c s))) := by
  refine acall_intro Tryd.func42 rfl _ Tryd.ntmps42 (Nat.le_of_ble_eq_true rfl) _ Tryd.results42 0 rfl rfl ?_
  repeat' (first | refine walk ?_ | fail | ((first | (apply awp_cond; rfl)); all_goals (intro hc; have hp := hc; first | (simp at hp; done) | ((try simp at hp); first | (exfalso; omega) | skip))) | (apply awp_cond_any; rfl))
  (refine Awp.red (red_pure (ts := [(0, .v (str s)), (1, .v (.int .u8 (c.toNat : Int))), (5, .v (.int .i64 ((s.length : Int) - 1 - ((0 : Nat) : Int))))]) ?_) ?_; ((repeat (first | exact tsok_nil | refine p_pure ?_ | refine p_eq ?_ ?_))))
  all_goals try (apply av_int; omega)
  refine awp_loop (fun n σ => ∃ i : Nat, i ≤ s.length ∧ n = s.length - i ∧ (c ∉ s.drop (s.length - i)) ∧ σ = ⟨[(0, .v (str s)), (1, .v (.int .u8 (c.toNat : Int))), (5, .v (.int .i64 ((s.length : Int) - 1 - (i : Int))))], [], C.nh⟩) s.length ⟨0, Nat.zero_le _, rfl, (by simp), rfl⟩ ?_
  rintro n σ ⟨i, hi, rfl, hsofar, rfl⟩
  by_cases hlt : i < s.length
  · have hx : (s.length : Int) - 1 - (i : Int) = ((s.length - 1 - i : Nat) : Int) := by omega
    have hk : s.length - 1 - i < s.length := by omega
    have hr : s[s.length - 1 - i]? = some s[s.length - 1 - i] := List.getElem?_eq_getElem hk
    rw [hx]
    repeat' (first | refine walk ?_ | fail | ((first | (apply awp_cond; rfl)); all_goals (intro hc; have hp := hc; first | (simp at hp; done) | ((try simp at hp); first | (exfalso; omega) | skip))) | (apply awp_cond_any; rfl))
    all_goals try (exfalso; omega)
    · apply fin_int
      rfl
      have hc : s[s.length - 1 - i] = c := UInt8.toNat.inj (by omega)
      exact (lastIdx_is hk hc (by rw [show s.length - 1 - i + 1 = s.length - i from by omega]; exact hsofar)).symm
    · have hc : ¬ s[s.length - 1 - i] = c := fun e => by subst e; omega
      have hnext : c ∉ s.drop (s.length - (i + 1)) := by
        rw [show s.length - (i + 1) = s.length - 1 - i from by omega, List.drop_eq_getElem_cons hk, show s.length - 1 - i + 1 = s.length - i from by omega]
        simp only [List.mem_cons, not_or]
        exact ⟨fun e => hc e.symm, hsofar⟩
      refine ⟨s.length - (i + 1), _, by omega, red_pure (ts := [(0, .v (str s)), (1, .v (.int .u8 (c.toNat : Int))), (5, .v (.int .i64 ((s.length : Int) - 1 - ((i + 1 : Nat) : Int))))]) ?_, i + 1, by omega, rfl, hnext, rfl⟩; ((repeat (first | exact tsok_nil | refine p_pure ?_ | refine p_eq ?_ ?_)); all_goals (apply av_int; omega))
  obtain rfl : i = s.length := by omega
  rw [show (s.length : Int) - 1 - (s.length : Int) = -1 from by omega]
  repeat' (first | refine walk ?_ | fail | ((first | (apply awp_cond; rfl)); all_goals (intro hc; have hp := hc; first | (simp at hp; done) | ((try simp at hp); first | (exfalso; omega) | skip))) | (apply awp_cond_any; rfl))
  all_goals try (exfalso; omega)
  apply fin_int
  rfl
  have : c ∉ s := by simpa using hsofar
  exact (lastIdx_none this).symm
theorem a_last (s : Str) (c : UInt8) (hs : s.length ≤ 9223372036854775807) : AFn C.P 33 [.v (str s), .v (.int .u8 (c.toNat : Int))] (.v (.int .i64 (lastIdx c s))) := by
  refine acall_intro Tryd.func33 rfl _ Tryd.ntmps33 (Nat.le_of_ble_eq_true rfl) _ Tryd.results33 0 rfl rfl ?_
  repeat' (first | refine walk ?_ | (first | (apply to_call Tryd.func42 rfl rfl; intro hIsFn; refine o_callf hIsFn (a_lastB s c hs ..) ?_; skip)) | ((first | (apply awp_cond; rfl)); all_goals (intro hc; have hp := hc; first | (simp at hp; done) | ((try simp at hp); first | (exfalso; omega) | skip))) | (apply awp_cond_any; rfl))
  apply fin_int
  rfl
  rfl
theorem a_split (s : Str) (hs : s.length ≤ 9223372036854775800) : AFn C.P 32 [.v (str s)] (.tup [.v (str (parentOf s)), .v (str (lastOf s))]) := by
  have hl := a_last s 47 (by omega)
  have hbd := lastIdx_bd 47 s
  have hpd : parentOf s = s.take (lastIdx 47 s).toNat := rfl
  have hld : lastOf s = s.drop (lastIdx 47 s + 1).toNat := rfl
  generalize lastIdx 47 s = k at hl hbd hpd hld
  refine acall_intro Tryd.func32 rfl _ Tryd.ntmps32 (Nat.le_of_ble_eq_true rfl) _ Tryd.results32 0 rfl rfl ?_
  repeat' (first | refine walk ?_ | (first | (apply to_call Tryd.func33 rfl rfl; intro hIsFn; refine o_callf hIsFn (hl ..) ?_; skip) | (apply opsx_val; apply ex_max0; (case hx => rfl); (case hy => rfl); (case hN => exact nle rfl)) | (apply opsx_val; apply ex_slice_str (a := 0) (b := k.toNat); (case hx => rfl); (case hT => rfl); (case he => rfl); (case ha => rfl); (case hb => exact ⟨_, rfl⟩); (case hab => (first | omega | (simp; done) | (simp only [List.length_cons, List.length_nil, List.length_map]; omega) | (simp; omega))); (case hbl => (first | omega | (simp; done) | (simp only [List.length_cons, List.length_nil, List.length_map]; omega) | (simp; omega))); (case hN => exact nle rfl)) | (apply opsx_val; apply ex_slice_str (a := (k + 1).toNat) (b := s.length); (case hx => rfl); (case hT => rfl); (case he => rfl); (case ha => exact ⟨_, av_int (by omega)⟩); (case hb => rfl); (case hab => (first | omega | (simp; done) | (simp only [List.length_cons, List.length_nil, List.length_map]; omega) | (simp; omega))); (case hbl => (first | omega | (simp; done) | (simp only [List.length_cons, List.length_nil, List.length_map]; omega) | (simp; omega))); (case hN => exact nle rfl))) | ((first | (apply awp_cond; rfl)); all_goals (intro hc; have hp := hc; first | (simp at hp; done) | ((try simp at hp); first | (exfalso; omega) | skip))) | (apply awp_cond_any; rfl))
  all_goals try (exfalso; omega)
  (refine f_pure (rs := [.tmp 2, .tmp 3]) ?_; (repeat' (first | exact rzl_nil | apply rzl_cons | exact rz_pure rfl | exact rz_ex | exact z_os | apply rz_agg | apply rz_tup | apply rz_clo | apply rz_int | apply rz_bool | apply rz_str | refine z_eq ?_ | apply rz_sl)); all_goals (first | exact hpd.symm | (rw [hld, List.take_length])))
theorem a_joined (p n : Str) (hp : p.length ≤ 140737488355328) (hn : n.length ≤ 1407374883553280) : AFn C.P 36 [.v (str p), .v (str n)] (.v (str (joinOf p n))) := by
  refine acall_intro Tryd.func36 rfl _ Tryd.ntmps36 (Nat.le_of_ble_eq_true rfl) _ Tryd.results36 0 rfl rfl ?_
  repeat' (first | refine walk ?_ | fail | ((first | (apply awp_cond; rfl)); all_goals (intro hc; have hp := hc; first | (simp at hp; done) | ((try simp at hp); first | (exfalso; omega) | skip))) | (apply awp_cond_any; rfl))
  · (refine f_pure (rs := [.tmp 4]) ?_; (repeat' (first | exact rzl_nil | apply rzl_cons | exact rz_pure rfl | exact rz_ex | exact z_os | apply rz_agg | apply rz_tup | apply rz_clo | apply rz_int | apply rz_bool | apply rz_str | refine z_eq ?_ | apply rz_sl)); all_goals (simp_all [joinOf]))
  · (refine f_pure (rs := [.tmp 4]) ?_; (repeat' (first | exact rzl_nil | apply rzl_cons | exact rz_pure rfl | exact rz_ex | exact z_os | apply rz_agg | apply rz_tup | apply rz_clo | apply rz_int | apply rz_bool | apply rz_str | refine z_eq ?_ | apply rz_sl)); all_goals (simp_all [joinOf]))
end Go.Proofs.YtieflafgcajhbaaDoor
