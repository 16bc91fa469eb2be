import Derived.Test.YtkkfilkmkdnboaaDoorMz34
import Derived.Test.YtkkfilkmkdnboaaDoorMz35
/- Merges in the abstract layer, 13: LikeTrees; what must be in any case. -/
set_option linter.unusedSimpArgs false
set_option linter.unnecessarySimpa false
set_option linter.unusedVariables false
set_option maxHeartbeats 1000000
namespace Go.Proofs.YtkkfilkmkdnboaaDoor
open Go.Ab Go.RowKit
set_option maxRecDepth 10000
attribute [local irreducible] Awp Ops OpsX Wanted Red ExOk Go.Ab.Fin ACall Rz RzL RzRows Enters ResOk RenV RenVL ArgV ArgVL
theorem a_like (a b : List Ent) (hl : a.length ≤ 140737488355328) (h : likeL a b = true) : AFn C.P 40 [entAV a, entAV b] (.v (.bool true)) := by
  have hk : a.map keyE = b.map keyE := of_decide_eq_true h
  have hlen : a.length = b.length := by have := congrArg List.length hk; simpa using this
  have hkey : ∀ i (h1 : i < a.length) (h2 : i < b.length), keyE a[i] = keyE b[i] := fun i h1 h2 => by
    have h3 : (a.map keyE)[i]? = (b.map keyE)[i]? := by rw [hk]
    rw [List.getElem?_map, List.getElem?_map, List.getElem?_eq_getElem h1, List.getElem?_eq_getElem h2] at h3
    exact Option.some.inj h3
  have ml1 : (a.map Ent.row).length = a.length := List.length_map ..
  have ml2 : (b.map Ent.row).length = b.length := List.length_map ..
  refine acall_intro Tryd.func40 rfl _ Tryd.ntmps40 (Nat.le_of_ble_eq_true rfl) _ Tryd.results40 0 rfl rfl ?_
  repeat' (first | refine walk ?_ | fail | ((first | (apply ops_split_t; rfl; rfl; exact nle rfl) | (apply ops_split_f; rfl; rfl; exact nle rfl) | (apply awp_cond; rfl)); all_goals (intro hc; have hp := hc; first | (simp at hp; done) | ((try simp at hp); first | (exfalso; omega) | skip))) | (apply awp_cond_any; rfl))
  all_goals try (exfalso; first | omega | simp_all; done)
  (refine Awp.red (red_pure (ts := [(0, entAV a), (1, entAV b), (5, .v (.int .i64 ((0 : Nat) : Int)))]) ?_) ?_; ((repeat (first | exact tsok_nil | refine p_pure ?_ | refine p_eq ?_ ?_))))
  refine awp_loop (fun n σ => ∃ i : Nat, i ≤ a.length ∧ n = a.length - i ∧ (True) ∧ σ = ⟨[(0, entAV a), (1, entAV b), (5, .v (.int .i64 (i : Int)))], [], C.nh⟩) a.length ⟨0, Nat.zero_le _, rfl, trivial, rfl⟩ ?_
  rintro n σ ⟨i, hi, rfl, -, rfl⟩
  by_cases hlt : i < a.length
  · have hlt2 : i < b.length := by omega
    have hr1 := getRow (f := Ent.row) hlt
    have hr2 := getRow (f := Ent.row) hlt2
    have hki := hkey i hlt hlt2
    generalize a[i] = x at *
    generalize b[i] = y at *
    obtain ⟨xp, xf, xt, xv⟩ := x
    obtain ⟨yp, yf, yt, yv⟩ := y
    have hk1 : xp = yp := congrArg (·.1) hki
    have hk2 : xf = yf := congrArg (·.2.1) hki
    have hk3 : xt = yt := congrArg (·.2.2) hki
    subst hk1; subst hk2; subst hk3
    have e1 : (!decide (xp = xp)) = false := by simp
    have e3 : (!decide (xt = xt)) = false := by simp
    clear hki hkey
    cases xf
    · repeat' (first | refine walk ?_ | (first | (refine o_beq ?_)) | ((first | (apply ops_split_t; rfl; rfl; exact nle rfl) | (apply ops_split_f; rfl; rfl; exact nle rfl) | (apply awp_cond; rfl)); all_goals (intro hc; have hp := hc; first | (simp at hp; done) | ((try simp at hp); first | (exfalso; omega) | skip))) | (apply awp_cond_any; rfl))
      all_goals try (exfalso; first | omega | contradiction)
      refine ⟨a.length - (i + 1), _, by omega, red_pure (ts := [(0, entAV a), (1, entAV b), (5, .v (.int .i64 ((i + 1 : Nat) : Int)))]) ?_, i + 1, by omega, rfl, trivial, rfl⟩; ((repeat (first | exact tsok_nil | refine p_pure ?_ | refine p_eq ?_ ?_)))
    · repeat' (first | refine walk ?_ | (first | (refine o_beq ?_)) | ((first | (apply ops_split_t; rfl; rfl; exact nle rfl) | (apply ops_split_f; rfl; rfl; exact nle rfl) | (apply awp_cond; rfl)); all_goals (intro hc; have hp := hc; first | (simp at hp; done) | ((try simp at hp); first | (exfalso; omega) | skip))) | (apply awp_cond_any; rfl))
      all_goals try (exfalso; first | omega | contradiction)
      refine ⟨a.length - (i + 1), _, by omega, red_pure (ts := [(0, entAV a), (1, entAV b), (5, .v (.int .i64 ((i + 1 : Nat) : Int)))]) ?_, i + 1, by omega, rfl, trivial, rfl⟩; ((repeat (first | exact tsok_nil | refine p_pure ?_ | refine p_eq ?_ ?_)))
  obtain rfl : i = a.length := by omega
  repeat' (first | refine walk ?_ | fail | ((first | (apply ops_split_t; rfl; rfl; exact nle rfl) | (apply ops_split_f; rfl; rfl; exact nle rfl) | (apply awp_cond; rfl)); all_goals (intro hc; have hp := hc; first | (simp at hp; done) | ((try simp at hp); first | (exfalso; omega) | skip))) | (apply awp_cond_any; rfl))
  all_goals try (exfalso; omega)
  (refine f_pure (rs := [.tmp 4]) ?_; (repeat' (first | exact rzl_nil | apply rzl_cons | exact rz_pure rfl | exact rz_ex | exact z_os | apply rz_agg | apply rz_tup | apply rz_clo | apply rz_int | apply rz_bool | apply rz_str | refine z_eq ?_ | apply rz_sl)); all_goals trace_state)
theorem a_mergeBegun : AFn C.P 38 [] (.v (.bool true)) := by
  have h1 : AFn C.P 39 [.sl false [], .sl false [[.v (str [102]), .v (.bool false), .v (str [49]), .v (.int .i64 1)]], .sl false [[.v (str [102]), .v (.bool false), .v (str [50]), .v (.int .i64 3)]]] (mgAV ([⟨[102], false, [50], 3⟩, ⟨[102, 32, 40, 49, 41], false, [49], 1⟩], [⟨[102], [102, 32, 40, 49, 41]⟩], 0)) := by
    have h := a_merge [] [⟨[102], false, [49], 1⟩] [⟨[102], false, [50], 3⟩] ⟨by simp, by simp⟩ ⟨by simp [Ent.small], by simp⟩ ⟨by simp [Ent.small], by simp⟩
    rw [show mergeA [] [⟨[102], false, [49], 1⟩] [⟨[102], false, [50], 3⟩] = ([⟨[102], false, [50], 3⟩, ⟨[102, 32, 40, 49, 41], false, [49], 1⟩], [⟨[102], [102, 32, 40, 49, 41]⟩], 0) from by decide +kernel] at h
    exact h
  refine acall_intro Tryd.func38 rfl _ Tryd.ntmps38 (Nat.le_of_ble_eq_true rfl) _ Tryd.results38 0 rfl rfl ?_
  repeat' (first | refine walk ?_ | (first | (refine o_fzl ?_) | (apply to_call Tryd.func39 rfl rfl; intro hIsFn; refine o_callp hIsFn (h1 ..) ?_)) | ((first | (apply ops_split_t; rfl; rfl; exact nle rfl) | (apply ops_split_f; rfl; rfl; exact nle rfl) | (apply awp_cond; rfl)); all_goals (intro hc; have hp := hc; first | (simp at hp; done) | ((try simp at hp); first | (exfalso; omega) | skip))) | (apply awp_cond_any; rfl))
  all_goals try (exfalso; simp_all; done)
  all_goals (apply fin_bool; rfl; simp; done)
end Go.Proofs.YtkkfilkmkdnboaaDoor

/- Merges in the abstract layer, 14: the laws One, Again, Turns. -/
set_option linter.unusedSimpArgs false
set_option linter.unnecessarySimpa false
set_option linter.unusedVariables false
set_option maxHeartbeats 1000000
namespace Go.Proofs.YtkkfilkmkdnboaaDoor
open Go.Ab Go.RowKit
set_option maxRecDepth 10000
attribute [local irreducible] Awp Ops OpsX Wanted Red ExOk Go.Ab.Fin ACall Rz RzL RzRows Enters ResOk RenV RenVL ArgV ArgVL
theorem Right.bigE {t : List Ent} (h : Right t) : EBig t := h.big
theorem verE_key (m t : List Ent) (e : Ent) : keyE (verE m t e) = keyE e := rfl
theorem mergeA_right {b m t : List Ent} (h : (mergeA b m t).2.2 = 0) : treeErr b = 0 ∧ treeErr m = 0 ∧ treeErr t = 0 := by
  by_cases hb : treeErr b = 0
  case neg => rw [mergeA_e1 hb] at h; exact absurd h hb
  by_cases hm : treeErr m = 0
  case neg => rw [mergeA_e2 hb hm] at h; exact absurd h hm
  by_cases ht : treeErr t = 0
  case neg => rw [mergeA_e3 hb hm ht] at h; exact absurd h ht
  exact ⟨hb, hm, ht⟩
theorem law_magain (b m t : List Ent) (hb : EBig b) (hm : EBig m) (ht : EBig t) : AFn C.P 11 [entAV b, entAV m, entAV t] (.v (.bool true)) := by
  have h1 := a_merge b m t hb hm ht
  have hg := a_mergeBegun
  by_cases h0 : (mergeA b m t).2.2 = 0
  case neg =>
    generalize mergeA b m t = r at *
    obtain ⟨r1, r2, E⟩ := r
    unfold mgAV at h1
    dsimp only at *
    refine acall_intro Tryd.func11 rfl _ Tryd.ntmps11 (Nat.le_of_ble_eq_true rfl) _ Tryd.results11 0 rfl rfl ?_
    repeat' (first | refine walk ?_ | (first | (apply to_call Tryd.func38 rfl rfl; intro hIsFn; refine o_callf hIsFn (hg ..) ?_; skip) | (apply to_call Tryd.func39 rfl rfl; intro hIsFn; refine o_callp hIsFn (h1 ..) ?_)) | ((first | (apply ops_split_t; rfl; rfl; exact nle rfl) | (apply ops_split_f; rfl; rfl; exact nle rfl) | (apply awp_cond; rfl)); all_goals (intro hc; have hp := hc; first | (simp at hp; done) | ((try simp at hp); first | (exfalso; omega) | skip))) | (apply awp_cond_any; rfl))
    all_goals try (exfalso; first | omega | contradiction | simp_all; done)
    all_goals (apply fin_bool; rfl; first | rfl | simp; done | simp_all; done)
  obtain ⟨e1, e2, e3⟩ := mergeA_right h0
  have rt := right_iff.1 e3
  rw [mergeA_ok e1 e2 e3] at h1 h0
  have hX := mergeR_right (right_iff.1 e1) (right_iff.1 e2) rt h0
  generalize mergeR b m t = r at *
  obtain ⟨X, r2, E⟩ := r
  dsimp only at *
  subst h0
  have h2 := a_merge t X t ht hX.big ht
  rw [mergeA_ok e3 (right_iff.2 hX) e3, merge_one1 rt hX] at h2
  have lX := hX.len
  have hlk := a_like X (X.map fun x => verE X t (ver1 x)) (by omega) (by
    have := likeL_one (f := fun x => verE X t (ver1 x)) (fun x => by rfl) X
    unfold likeL at this ⊢
    rw [decide_eq_true_iff] at this ⊢
    exact this.symm)
  generalize (X.map fun x => verE X t (ver1 x)) = Y at *
  unfold mgAV at h1 h2
  refine acall_intro Tryd.func11 rfl _ Tryd.ntmps11 (Nat.le_of_ble_eq_true rfl) _ Tryd.results11 0 rfl rfl ?_
  repeat' (first | refine walk ?_ | (first | (apply to_call Tryd.func38 rfl rfl; intro hIsFn; refine o_callf hIsFn (hg ..) ?_; skip) | (apply to_call Tryd.func39 rfl rfl; intro hIsFn; refine o_callp hIsFn (h1 ..) ?_) | (apply to_call Tryd.func39 rfl rfl; intro hIsFn; refine o_callp hIsFn (h2 ..) ?_) | (apply to_call Tryd.func40 rfl rfl; intro hIsFn; refine o_callf hIsFn (hlk ..) ?_; skip)) | ((first | (apply ops_split_t; rfl; rfl; exact nle rfl) | (apply ops_split_f; rfl; rfl; exact nle rfl) | (apply awp_cond; rfl)); all_goals (intro hc; have hp := hc; first | (simp at hp; done) | ((try simp at hp); first | (exfalso; omega) | skip))) | (apply awp_cond_any; rfl))
  all_goals try (exfalso; first | omega | contradiction | simp_all; done)
  all_goals (apply fin_bool; rfl; first | rfl | simp; done | simp_all; done)
theorem mergeR_turns {b m t : List Ent} (h1 : (mergeR b m t).2.2 = 0) (h2 : (mergeR b t m).2.2 = 0) (hc : (mergeR b m t).2.1 = []) : (mergeR b t m).2.1 = [] ∧ likeL (mergeR b m t).1 (mergeR b t m).1 = true := by
  unfold mergeR at h1 h2 hc ⊢
  cases hs : mergeS b m t with
  | none => rw [hs] at h1; exact absurd h1 (show ¬ ((2 : Int) = 0) from by decide)
  | some s =>
    rw [hs] at h1 hc
    simp only at h1 hc
    by_cases h60 : 60 < s.out.length
    · rw [if_pos h60] at h1; exact absurd h1 (show ¬ ((2 : Int) = 0) from by decide)
    rw [if_neg h60] at hc
    have hc : s.cps = [] := hc
    rw [merge_turn hs hc]
    simp only
    simp only [if_neg h60]
    exact ⟨hc, likeL_ver (f := verE m t) (g := verE t m) (fun x => rfl) (fun x => rfl) s.out⟩
theorem law_mturns (b m t : List Ent) (hb : EBig b) (hm : EBig m) (ht : EBig t) : AFn C.P 12 [entAV b, entAV m, entAV t] (.v (.bool true)) := by
  have h1 := a_merge b m t hb hm ht
  have h2 := a_merge b t m hb ht hm
  have hg := a_mergeBegun
  by_cases h0 : (mergeA b m t).2.2 = 0
  case neg =>
    generalize mergeA b m t = r at *
    generalize mergeA b t m = r' at *
    obtain ⟨r1, r2, E⟩ := r
    obtain ⟨r1', r2', E'⟩ := r'
    unfold mgAV at h1 h2
    dsimp only at *
    refine acall_intro Tryd.func12 rfl _ Tryd.ntmps12 (Nat.le_of_ble_eq_true rfl) _ Tryd.results12 0 rfl rfl ?_
    repeat' (first | refine walk ?_ | (first | (apply to_call Tryd.func38 rfl rfl; intro hIsFn; refine o_callf hIsFn (hg ..) ?_; skip) | (apply to_call Tryd.func39 rfl rfl; intro hIsFn; refine o_callp hIsFn (h1 ..) ?_) | (apply to_call Tryd.func39 rfl rfl; intro hIsFn; refine o_callp hIsFn (h2 ..) ?_)) | ((first | (apply ops_split_t; rfl; rfl; exact nle rfl) | (apply ops_split_f; rfl; rfl; exact nle rfl) | (apply awp_cond; rfl)); all_goals (intro hc; have hp := hc; first | (simp at hp; done) | ((try simp at hp); first | (exfalso; omega) | skip))) | (apply awp_cond_any; rfl))
    all_goals try (exfalso; first | omega | contradiction | simp_all; done)
    all_goals (apply fin_bool; rfl; first | rfl | simp; done | simp_all; done)
  by_cases h0' : (mergeA b t m).2.2 = 0
  case neg =>
    generalize mergeA b m t = r at *
    generalize mergeA b t m = r' at *
    obtain ⟨r1, r2, E⟩ := r
    obtain ⟨r1', r2', E'⟩ := r'
    unfold mgAV at h1 h2
    dsimp only at *
    refine acall_intro Tryd.func12 rfl _ Tryd.ntmps12 (Nat.le_of_ble_eq_true rfl) _ Tryd.results12 0 rfl rfl ?_
    repeat' (first | refine walk ?_ | (first | (apply to_call Tryd.func38 rfl rfl; intro hIsFn; refine o_callf hIsFn (hg ..) ?_; skip) | (apply to_call Tryd.func39 rfl rfl; intro hIsFn; refine o_callp hIsFn (h1 ..) ?_) | (apply to_call Tryd.func39 rfl rfl; intro hIsFn; refine o_callp hIsFn (h2 ..) ?_)) | ((first | (apply ops_split_t; rfl; rfl; exact nle rfl) | (apply ops_split_f; rfl; rfl; exact nle rfl) | (apply awp_cond; rfl)); all_goals (intro hc; have hp := hc; first | (simp at hp; done) | ((try simp at hp); first | (exfalso; omega) | skip))) | (apply awp_cond_any; rfl))
    all_goals try (exfalso; first | omega | contradiction | simp_all; done)
    all_goals (apply fin_bool; rfl; first | rfl | simp; done | simp_all; done)
  obtain ⟨e1, e2, e3⟩ := mergeA_right h0
  rw [mergeA_ok e1 e2 e3] at h1 h0
  rw [mergeA_ok e1 e3 e2] at h2 h0'
  have k1 := mergeR_turns h0 h0'
  have k2 := mergeR_turns h0' h0
  have lX := (mergeR_right (right_iff.1 e1) (right_iff.1 e2) (right_iff.1 e3) h0).len
  generalize mergeR b m t = r at *
  generalize mergeR b t m = r' at *
  obtain ⟨X, l, E⟩ := r
  obtain ⟨Y, l', E'⟩ := r'
  unfold mgAV cpyAV at h1 h2
  dsimp only at *
  subst h0; subst h0'
  by_cases hl : l = []
  · subst hl
    obtain ⟨hl', hlk⟩ := k1 rfl
    subst hl'
    have hlk := a_like X Y (by omega) hlk
    clear k1 k2
    refine acall_intro Tryd.func12 rfl _ Tryd.ntmps12 (Nat.le_of_ble_eq_true rfl) _ Tryd.results12 0 rfl rfl ?_
    repeat' (first | refine walk ?_ | (first | (apply to_call Tryd.func38 rfl rfl; intro hIsFn; refine o_callf hIsFn (hg ..) ?_; skip) | (apply to_call Tryd.func39 rfl rfl; intro hIsFn; refine o_callp hIsFn (h1 ..) ?_) | (apply to_call Tryd.func39 rfl rfl; intro hIsFn; refine o_callp hIsFn (h2 ..) ?_) | (apply to_call Tryd.func40 rfl rfl; intro hIsFn; refine o_callf hIsFn (hlk ..) ?_; skip) | (refine o_beq ?_)) | ((first | (apply ops_split_t; rfl; rfl; exact nle rfl) | (apply ops_split_f; rfl; rfl; exact nle rfl) | (apply awp_cond; rfl)); all_goals (intro hc; have hp := hc; first | (simp at hp; done) | ((try simp at hp); first | (exfalso; omega) | skip))) | (apply awp_cond_any; rfl))
    all_goals try (exfalso; first | omega | contradiction | simp_all; done)
    all_goals (apply fin_bool; rfl; first | rfl | simp; done | simp_all; done)
  · have hl' : ¬ l' = [] := fun e => hl (k2 e).1
    obtain ⟨c, l, rfl⟩ := List.exists_cons_of_ne_nil hl
    obtain ⟨c', l', rfl⟩ := List.exists_cons_of_ne_nil hl'
    clear k1 k2 hl hl'
    have n1 : ((c :: l).map Cpy.row).length = l.length + 1 := by simp
    have n2 : ((c' :: l').map Cpy.row).length = l'.length + 1 := by simp
    generalize (c :: l).map Cpy.row = R1 at *
    generalize (c' :: l').map Cpy.row = R2 at *
    have d1 : decide ((R1.length : Int) = 0) = false := decide_eq_false (by omega)
    have d2 : decide ((R2.length : Int) = 0) = false := decide_eq_false (by omega)
    refine acall_intro Tryd.func12 rfl _ Tryd.ntmps12 (Nat.le_of_ble_eq_true rfl) _ Tryd.results12 0 rfl rfl ?_
    repeat' (first | refine walk ?_ | (first | (apply to_call Tryd.func38 rfl rfl; intro hIsFn; refine o_callf hIsFn (hg ..) ?_; skip) | (apply to_call Tryd.func39 rfl rfl; intro hIsFn; refine o_callp hIsFn (h1 ..) ?_) | (apply to_call Tryd.func39 rfl rfl; intro hIsFn; refine o_callp hIsFn (h2 ..) ?_) | (refine o_beq ?_)) | ((first | (apply ops_split_t; rfl; rfl; exact nle rfl) | (apply ops_split_f; rfl; rfl; exact nle rfl) | (apply awp_cond; rfl)); all_goals (intro hc; have hp := hc; first | (simp at hp; done) | ((try simp at hp); first | (exfalso; omega) | skip))) | (apply awp_cond_any; rfl))
    all_goals try (exfalso; first | omega | contradiction | simp_all; done)
    all_goals (apply fin_bool; rfl; first | rfl | simp; done | simp_all; done)
theorem law_magain_all (ys : List AV) (h : TyAllW C.tab 140737488355328 [22, 22, 22] ys) : AFn C.P 11 ys (.v (.bool true)) := by
  obtain ⟨_, _, rfl, h0, _, _, rfl, h1, _, _, rfl, h2, rfl⟩ := h
  obtain ⟨a, rfl, ha⟩ := tyv_ents h0
  obtain ⟨b, rfl, hb⟩ := tyv_ents h1
  obtain ⟨c, rfl, hc⟩ := tyv_ents h2
  exact law_magain a b c ha hb hc
theorem law_mturns_all (ys : List AV) (h : TyAllW C.tab 140737488355328 [22, 22, 22] ys) : AFn C.P 12 ys (.v (.bool true)) := by
  obtain ⟨_, _, rfl, h0, _, _, rfl, h1, _, _, rfl, h2, rfl⟩ := h
  obtain ⟨a, rfl, ha⟩ := tyv_ents h0
  obtain ⟨b, rfl, hb⟩ := tyv_ents h1
  obtain ⟨c, rfl, hc⟩ := tyv_ents h2
  exact law_mturns a b c ha hb hc
end Go.Proofs.YtkkfilkmkdnboaaDoor
