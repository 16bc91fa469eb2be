/- The law PathBack, walked. -/
import Derived.Test.YtieflafgcajhbaaDoorLPa
import Derived.Test.YtieflafgcajhbaaDoorPaQ
import Derived.Test.YtieflafgcajhbaaDoorTyE
set_option linter.unusedSimpArgs false
set_option linter.unnecessarySimpa false
set_option maxHeartbeats 1000000
namespace Go.Proofs.YtieflafgcajhbaaDoor
open Go.Ab Go.RowKit
set_option maxRecDepth 10000
attribute [local irreducible] Awp Ops OpsX Wanted Red ExOk Go.Ab.Fin ACall Rz RzL RzRows Enters ResOk RenV RenVL ArgV ArgVL

theorem law_pback (s f t : Str) (n : Int) (hs : s.length ≤ 140737488355328) (hf : f.length ≤ 140737488355328) (ht : t.length ≤ 140737488355328) : AFn C.P 10 [.v (str s), .v (str f), .v (str t), .v (.int .i64 n)] (.v (.bool true)) := by
  have h1 := a_parent s (by omega)
  have h2 := a_name s (by omega)
  by_cases h0 : pathErr s = 0
  · obtain ⟨b1, b2⟩ := back_join h0
    rw [h0] at h1 h2
    have hpl : (parentOf s).length ≤ s.length := by simp [parentOf]; omega
    have hnl : (lastOf s).length ≤ s.length := by simp [lastOf]
    have h3 := a_join (parentOf s) (lastOf s) (by omega) (by omega)
    rw [b1, b2] at h3
    have h4 := a_moved s f t (by omega) (by omega) (by omega)
    have hmv := @back_moved s f t
    have hql : movedErr s f t = 0 → (t ++ s.drop f.length).length ≤ 4000000 := fun h => by
      have h2 := (pathsErr_zero.1 (hmv h).2.1).1
      have := (pathErr_zero.1 h2).2
      simp only [tooGreat, Bool.or_eq_false_iff, decide_eq_false_iff_not, Nat.not_lt] at this
      exact Nat.le_trans this.2 (by decide)
    have h5 := fun h => a_moved (t ++ s.drop f.length) t f (Nat.le_trans (hql h) (by decide)) (by omega) (by omega)
    have h6 := fun h => a_within (t ++ s.drop f.length) t (Nat.le_trans (hql h) (by decide)) (by omega)
    have h7 := a_aside s n (by omega)
    have has := @back_aside s n
    have hal : asideErr s n = 0 → (asideQ s n).length ≤ 4000000 := fun h => by
      have := (aside_right h).2.2.2.2
      simp [tooGreat] at this; omega
    have h8 := fun h => a_parent (asideQ s n) (Nat.le_trans (hal h) (by omega))
    have h9 := fun h => a_pcheck (asideQ s n) (Nat.le_trans (hal h) (by omega))
    generalize movedErr s f t = M at *
    generalize asideErr s n = E at *
    generalize asideQ s n = Q at *
    generalize hPa : parentOf s = pa at *
    generalize hLa : lastOf s = la at *
    generalize hXX : t ++ s.drop f.length = X at *
    by_cases hM : M = 0
    · subst hM
      have h5 := h5 rfl
      have h6 := h6 rfl
      obtain ⟨c1, c2, c3, c4⟩ := hmv rfl
      rw [c1, c4] at h5
      rw [c2, c3] at h6
      by_cases hE : E = 0
      · subst hE
        obtain ⟨e1, e2⟩ := has rfl
        have h8 := h8 rfl
        have h9 := h9 rfl
        rw [e1, e2] at h8
        rw [e1] at h9
        refine acall_intro Tryd.func10 rfl _ Tryd.ntmps10 (Nat.le_of_ble_eq_true rfl) _ Tryd.results10 0 rfl rfl ?_
        repeat' (first | refine walk ?_ | (first | (apply to_call Tryd.func14 rfl rfl; intro hIsFn; refine o_callf hIsFn (a_pbegun ..) ?_; skip) | (apply to_call Tryd.func17 rfl rfl; intro hIsFn; refine o_callp hIsFn (h1 ..) ?_) | (apply to_call Tryd.func18 rfl rfl; intro hIsFn; refine o_callp hIsFn (h2 ..) ?_) | (apply to_call Tryd.func24 rfl rfl; intro hIsFn; refine o_callp hIsFn (h3 ..) ?_) | (apply to_call Tryd.func28 rfl rfl; intro hIsFn; refine o_callp hIsFn (h4 ..) ?_) | (apply to_call Tryd.func28 rfl rfl; intro hIsFn; refine o_callp hIsFn (h5 ..) ?_) | (apply to_call Tryd.func21 rfl rfl; intro hIsFn; refine o_callp hIsFn (h6 ..) ?_) | (apply to_call Tryd.func11 rfl rfl; intro hIsFn; refine o_callp hIsFn (h7 ..) ?_) | (apply to_call Tryd.func17 rfl rfl; intro hIsFn; refine o_callp hIsFn (h8 ..) ?_) | (apply to_call Tryd.func16 rfl rfl; intro hIsFn; refine o_callf hIsFn (h9 ..) ?_; skip)) | ((first | (apply ops_split_t; rfl; rfl; exact nle rfl) | (apply ops_split_f; rfl; rfl; exact nle rfl) | (apply awp_cond; rfl)); all_goals (intro hc; have hp := hc; first | (simp at hp; done) | ((try simp at hp); first | (exfalso; omega) | skip))) | (apply awp_cond_any; rfl))
        all_goals try (exfalso; omega)
        all_goals (apply fin_bool; rfl; simp_all [okOr]; done)
      · refine acall_intro Tryd.func10 rfl _ Tryd.ntmps10 (Nat.le_of_ble_eq_true rfl) _ Tryd.results10 0 rfl rfl ?_
        repeat' (first | refine walk ?_ | (first | (apply to_call Tryd.func14 rfl rfl; intro hIsFn; refine o_callf hIsFn (a_pbegun ..) ?_; skip) | (apply to_call Tryd.func17 rfl rfl; intro hIsFn; refine o_callp hIsFn (h1 ..) ?_) | (apply to_call Tryd.func18 rfl rfl; intro hIsFn; refine o_callp hIsFn (h2 ..) ?_) | (apply to_call Tryd.func24 rfl rfl; intro hIsFn; refine o_callp hIsFn (h3 ..) ?_) | (apply to_call Tryd.func28 rfl rfl; intro hIsFn; refine o_callp hIsFn (h4 ..) ?_) | (apply to_call Tryd.func28 rfl rfl; intro hIsFn; refine o_callp hIsFn (h5 ..) ?_) | (apply to_call Tryd.func21 rfl rfl; intro hIsFn; refine o_callp hIsFn (h6 ..) ?_) | (apply to_call Tryd.func11 rfl rfl; intro hIsFn; refine o_callp hIsFn (h7 ..) ?_)) | ((first | (apply ops_split_t; rfl; rfl; exact nle rfl) | (apply ops_split_f; rfl; rfl; exact nle rfl) | (apply awp_cond; rfl)); all_goals (intro hc; have hp := hc; first | (simp at hp; done) | ((try simp at hp); first | (exfalso; omega) | skip))) | (apply awp_cond_any; rfl))
        all_goals try (exfalso; omega)
        all_goals (apply fin_bool; rfl; simp_all [okOr]; done)
    · by_cases hE : E = 0
      · subst hE
        obtain ⟨e1, e2⟩ := has rfl
        have h8 := h8 rfl
        have h9 := h9 rfl
        rw [e1, e2] at h8
        rw [e1] at h9
        refine acall_intro Tryd.func10 rfl _ Tryd.ntmps10 (Nat.le_of_ble_eq_true rfl) _ Tryd.results10 0 rfl rfl ?_
        repeat' (first | refine walk ?_ | (first | (apply to_call Tryd.func14 rfl rfl; intro hIsFn; refine o_callf hIsFn (a_pbegun ..) ?_; skip) | (apply to_call Tryd.func17 rfl rfl; intro hIsFn; refine o_callp hIsFn (h1 ..) ?_) | (apply to_call Tryd.func18 rfl rfl; intro hIsFn; refine o_callp hIsFn (h2 ..) ?_) | (apply to_call Tryd.func24 rfl rfl; intro hIsFn; refine o_callp hIsFn (h3 ..) ?_) | (apply to_call Tryd.func28 rfl rfl; intro hIsFn; refine o_callp hIsFn (h4 ..) ?_) | (apply to_call Tryd.func11 rfl rfl; intro hIsFn; refine o_callp hIsFn (h7 ..) ?_) | (apply to_call Tryd.func17 rfl rfl; intro hIsFn; refine o_callp hIsFn (h8 ..) ?_) | (apply to_call Tryd.func16 rfl rfl; intro hIsFn; refine o_callf hIsFn (h9 ..) ?_; skip)) | ((first | (apply ops_split_t; rfl; rfl; exact nle rfl) | (apply ops_split_f; rfl; rfl; exact nle rfl) | (apply awp_cond; rfl)); all_goals (intro hc; have hp := hc; first | (simp at hp; done) | ((try simp at hp); first | (exfalso; omega) | skip))) | (apply awp_cond_any; rfl))
        all_goals try (exfalso; omega)
        all_goals (apply fin_bool; rfl; simp_all [okOr]; done)
      · refine acall_intro Tryd.func10 rfl _ Tryd.ntmps10 (Nat.le_of_ble_eq_true rfl) _ Tryd.results10 0 rfl rfl ?_
        repeat' (first | refine walk ?_ | (first | (apply to_call Tryd.func14 rfl rfl; intro hIsFn; refine o_callf hIsFn (a_pbegun ..) ?_; skip) | (apply to_call Tryd.func17 rfl rfl; intro hIsFn; refine o_callp hIsFn (h1 ..) ?_) | (apply to_call Tryd.func18 rfl rfl; intro hIsFn; refine o_callp hIsFn (h2 ..) ?_) | (apply to_call Tryd.func24 rfl rfl; intro hIsFn; refine o_callp hIsFn (h3 ..) ?_) | (apply to_call Tryd.func28 rfl rfl; intro hIsFn; refine o_callp hIsFn (h4 ..) ?_) | (apply to_call Tryd.func11 rfl rfl; intro hIsFn; refine o_callp hIsFn (h7 ..) ?_)) | ((first | (apply ops_split_t; rfl; rfl; exact nle rfl) | (apply ops_split_f; rfl; rfl; exact nle rfl) | (apply awp_cond; rfl)); all_goals (intro hc; have hp := hc; first | (simp at hp; done) | ((try simp at hp); first | (exfalso; omega) | skip))) | (apply awp_cond_any; rfl))
        all_goals try (exfalso; omega)
        all_goals (apply fin_bool; rfl; simp_all [okOr]; done)
  · refine acall_intro Tryd.func10 rfl _ Tryd.ntmps10 (Nat.le_of_ble_eq_true rfl) _ Tryd.results10 0 rfl rfl ?_
    repeat' (first | refine walk ?_ | (first | (apply to_call Tryd.func14 rfl rfl; intro hIsFn; refine o_callf hIsFn (a_pbegun ..) ?_; skip) | (apply to_call Tryd.func17 rfl rfl; intro hIsFn; refine o_callp hIsFn (h1 ..) ?_) | (apply to_call Tryd.func18 rfl rfl; intro hIsFn; refine o_callp hIsFn (h2 ..) ?_)) | ((first | (apply ops_split_t; rfl; rfl; exact nle rfl) | (apply ops_split_f; rfl; rfl; exact nle rfl) | (apply awp_cond; rfl)); all_goals (intro hc; have hp := hc; first | (simp at hp; done) | ((try simp at hp); first | (exfalso; omega) | skip))) | (apply awp_cond_any; rfl))
    all_goals try (exfalso; omega)
    all_goals (apply fin_bool; rfl; simp_all [okOr]; done)
theorem law_pback_all (ys : List AV) (h : TyAllW C.tab 140737488355328 [9, 9, 9, 3] ys) : AFn C.P 10 ys (.v (.bool true)) := by
  obtain ⟨_, _, rfl, h0, _, _, rfl, h1, _, _, rfl, h2, _, _, rfl, h3, rfl⟩ := h
  obtain ⟨a, rfl, ha⟩ := tyv_str h0
  obtain ⟨b, rfl, hb⟩ := tyv_str h1
  obtain ⟨c, rfl, hc⟩ := tyv_str h2
  obtain ⟨n, rfl, _⟩ := tyv_int h3
  exact law_pback a b c n ha hb hc
end Go.Proofs.YtieflafgcajhbaaDoor
