/- The law PathApart, walked. -/
import Derived.Test.YtieflafgcajhbaaDoorLPa
import Derived.Test.YtieflafgcajhbaaDoorPaQ
import Derived.Test.YtieflafgcajhbaaDoorTyE
set_option linter.unusedSimpArgs false
set_option linter.unnecessarySimpa false
set_option maxHeartbeats 1000000
namespace Go.Proofs.YtieflafgcajhbaaDoor
open Go.Ab Go.RowKit
set_option maxRecDepth 10000
attribute [local irreducible] Awp Ops OpsX Wanted Red ExOk Go.Ab.Fin ACall Rz RzL RzRows Enters ResOk RenV RenVL ArgV ArgVL

theorem law_papart (s : Str) (n m : Int) (hs : s.length ≤ 140737488355328) : AFn C.P 4 [.v (str s), .v (.int .i64 n), .v (.int .i64 m)] (.v (.bool true)) := by
  have h1 := a_aside s n (by omega)
  have h2 := a_aside s m (by omega)
  have hap := @apart s n m
  generalize asideErr s n = E at *
  generalize asideErr s m = F at *
  generalize asideQ s n = Q at *
  generalize asideQ s m = R at *
  by_cases hE : E = 0
  · by_cases hF : F = 0
    · subst hE
      subst hF
      have ha := hap rfl rfl
      refine acall_intro Tryd.func4 rfl _ Tryd.ntmps4 (Nat.le_of_ble_eq_true rfl) _ Tryd.results4 0 rfl rfl ?_
      repeat' (first | refine walk ?_ | (first | (apply to_call Tryd.func14 rfl rfl; intro hIsFn; refine o_callf hIsFn (a_pbegun ..) ?_; skip) | (apply to_call Tryd.func11 rfl rfl; intro hIsFn; refine o_callp hIsFn (h1 ..) ?_) | (apply to_call Tryd.func11 rfl rfl; intro hIsFn; refine o_callp hIsFn (h2 ..) ?_) | (refine o_beq ?_)) | ((first | (apply ops_split_t; rfl; rfl; exact nle rfl) | (apply ops_split_f; rfl; rfl; exact nle rfl) | (apply awp_cond; rfl)); all_goals (intro hc; have hp := hc; first | (simp at hp; done) | ((try simp at hp); first | (exfalso; omega) | skip))) | (apply awp_cond_any; rfl))
      all_goals try (exfalso; omega)
      all_goals (apply fin_bool; rfl; simp [okOr, ha]; done)
    · refine acall_intro Tryd.func4 rfl _ Tryd.ntmps4 (Nat.le_of_ble_eq_true rfl) _ Tryd.results4 0 rfl rfl ?_
      repeat' (first | refine walk ?_ | (first | (apply to_call Tryd.func14 rfl rfl; intro hIsFn; refine o_callf hIsFn (a_pbegun ..) ?_; skip) | (apply to_call Tryd.func11 rfl rfl; intro hIsFn; refine o_callp hIsFn (h1 ..) ?_) | (apply to_call Tryd.func11 rfl rfl; intro hIsFn; refine o_callp hIsFn (h2 ..) ?_) | (refine o_beq ?_)) | ((first | (apply ops_split_t; rfl; rfl; exact nle rfl) | (apply ops_split_f; rfl; rfl; exact nle rfl) | (apply awp_cond; rfl)); all_goals (intro hc; have hp := hc; first | (simp at hp; done) | ((try simp at hp); first | (exfalso; omega) | skip))) | (apply awp_cond_any; rfl))
      all_goals try (exfalso; omega)
      all_goals (apply fin_bool; rfl; simp_all; done)
  · refine acall_intro Tryd.func4 rfl _ Tryd.ntmps4 (Nat.le_of_ble_eq_true rfl) _ Tryd.results4 0 rfl rfl ?_
    repeat' (first | refine walk ?_ | (first | (apply to_call Tryd.func14 rfl rfl; intro hIsFn; refine o_callf hIsFn (a_pbegun ..) ?_; skip) | (apply to_call Tryd.func11 rfl rfl; intro hIsFn; refine o_callp hIsFn (h1 ..) ?_) | (apply to_call Tryd.func11 rfl rfl; intro hIsFn; refine o_callp hIsFn (h2 ..) ?_) | (refine o_beq ?_)) | ((first | (apply ops_split_t; rfl; rfl; exact nle rfl) | (apply ops_split_f; rfl; rfl; exact nle rfl) | (apply awp_cond; rfl)); all_goals (intro hc; have hp := hc; first | (simp at hp; done) | ((try simp at hp); first | (exfalso; omega) | skip))) | (apply awp_cond_any; rfl))
    all_goals try (exfalso; omega)
    all_goals (apply fin_bool; rfl; simp_all; done)
theorem law_papart_all (ys : List AV) (h : TyAllW C.tab 140737488355328 [9, 3, 3] ys) : AFn C.P 4 ys (.v (.bool true)) := by
  obtain ⟨_, _, rfl, h0, _, _, rfl, h1, _, _, rfl, h2, rfl⟩ := h
  obtain ⟨a, rfl, ha⟩ := tyv_str h0
  obtain ⟨n, rfl, _⟩ := tyv_int h1
  obtain ⟨m, rfl, _⟩ := tyv_int h2
  exact law_papart a n m ha
end Go.Proofs.YtieflafgcajhbaaDoor
