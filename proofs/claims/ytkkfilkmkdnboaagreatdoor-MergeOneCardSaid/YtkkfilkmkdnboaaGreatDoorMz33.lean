import Derived.Test.YtkkfilkmkdnboaaGreatDoorMz31
import Derived.Test.YtkkfilkmkdnboaaGreatDoorMz32
/- Merges in the abstract layer, 13: LikeTrees; what must be in any case. -/
set_option linter.unusedSimpArgs false
set_option linter.unnecessarySimpa false
set_option linter.unusedVariables false
set_option maxHeartbeats 1000000
namespace Go.Proofs.YtkkfilkmkdnboaaGreatDoor
open Go.Ab Go.RowKit
set_option maxRecDepth 10000
attribute [local irreducible] Awp Ops OpsX Wanted Red ExOk Go.Ab.Fin ACall Rz RzL RzRows Enters ResOk RenV RenVL ArgV ArgVL
theorem a_like (a b : List Ent) (hl : a.length ≤ 140737488355328) (h : likeL a b = true) : AFn C.P 7 [entAV a, entAV b] (.v (.bool true)) := by
  have hk : a.map keyE = b.map keyE := of_decide_eq_true h
  have hlen : a.length = b.length := by have := congrArg List.length hk; simpa using this
  have hkey : ∀ i (h1 : i < a.length) (h2 : i < b.length), keyE a[i] = keyE b[i] := fun i h1 h2 => by
    have h3 : (a.map keyE)[i]? = (b.map keyE)[i]? := by rw [hk]
    rw [List.getElem?_map, List.getElem?_map, List.getElem?_eq_getElem h1, List.getElem?_eq_getElem h2] at h3
    exact Option.some.inj h3
  have ml1 : (a.map Ent.row).length = a.length := List.length_map ..
  have ml2 : (b.map Ent.row).length = b.length := List.length_map ..
  refine acall_intro Tryz.func7 rfl _ Tryz.ntmps7 (Nat.le_of_ble_eq_true rfl) _ Tryz.results7 0 rfl rfl ?_
  repeat' (first | refine walk ?_ | fail | ((first | (apply ops_split_t; rfl; rfl; exact nle rfl) | (apply ops_split_f; rfl; rfl; exact nle rfl) | (apply awp_cond; rfl)); all_goals (intro hc; have hp := hc; first | (simp at hp; done) | ((try simp at hp); first | (exfalso; omega) | skip))) | (apply awp_cond_any; rfl))
  all_goals try (exfalso; first | omega | simp_all; done)
  (refine Awp.red (red_pure (ts := [(0, entAV a), (1, entAV b), (5, .v (.int .i64 ((0 : Nat) : Int)))]) ?_) ?_; ((repeat (first | exact tsok_nil | refine p_pure ?_ | refine p_eq ?_ ?_))))
  refine awp_loop (fun n σ => ∃ i : Nat, i ≤ a.length ∧ n = a.length - i ∧ (True) ∧ σ = ⟨[(0, entAV a), (1, entAV b), (5, .v (.int .i64 (i : Int)))], [], C.nh⟩) a.length ⟨0, Nat.zero_le _, rfl, trivial, rfl⟩ ?_
  rintro n σ ⟨i, hi, rfl, -, rfl⟩
  by_cases hlt : i < a.length
  · have hlt2 : i < b.length := by omega
    have hr1 := getRow (f := Ent.row) hlt
    have hr2 := getRow (f := Ent.row) hlt2
    have hki := hkey i hlt hlt2
    generalize a[i] = x at *
    generalize b[i] = y at *
    obtain ⟨xp, xf, xt, xv⟩ := x
    obtain ⟨yp, yf, yt, yv⟩ := y
    have hk1 : xp = yp := congrArg (·.1) hki
    have hk2 : xf = yf := congrArg (·.2.1) hki
    have hk3 : xt = yt := congrArg (·.2.2) hki
    subst hk1; subst hk2; subst hk3
    have e1 : (!decide (xp = xp)) = false := by simp
    have e3 : (!decide (xt = xt)) = false := by simp
    clear hki hkey
    cases xf
    · repeat' (first | refine walk ?_ | (first | (refine o_beq ?_)) | ((first | (apply ops_split_t; rfl; rfl; exact nle rfl) | (apply ops_split_f; rfl; rfl; exact nle rfl) | (apply awp_cond; rfl)); all_goals (intro hc; have hp := hc; first | (simp at hp; done) | ((try simp at hp); first | (exfalso; omega) | skip))) | (apply awp_cond_any; rfl))
      all_goals try (exfalso; first | omega | contradiction)
      refine ⟨a.length - (i + 1), _, by omega, red_pure (ts := [(0, entAV a), (1, entAV b), (5, .v (.int .i64 ((i + 1 : Nat) : Int)))]) ?_, i + 1, by omega, rfl, trivial, rfl⟩; ((repeat (first | exact tsok_nil | refine p_pure ?_ | refine p_eq ?_ ?_)))
    · repeat' (first | refine walk ?_ | (first | (refine o_beq ?_)) | ((first | (apply ops_split_t; rfl; rfl; exact nle rfl) | (apply ops_split_f; rfl; rfl; exact nle rfl) | (apply awp_cond; rfl)); all_goals (intro hc; have hp := hc; first | (simp at hp; done) | ((try simp at hp); first | (exfalso; omega) | skip))) | (apply awp_cond_any; rfl))
      all_goals try (exfalso; first | omega | contradiction)
      refine ⟨a.length - (i + 1), _, by omega, red_pure (ts := [(0, entAV a), (1, entAV b), (5, .v (.int .i64 ((i + 1 : Nat) : Int)))]) ?_, i + 1, by omega, rfl, trivial, rfl⟩; ((repeat (first | exact tsok_nil | refine p_pure ?_ | refine p_eq ?_ ?_)))
  obtain rfl : i = a.length := by omega
  repeat' (first | refine walk ?_ | fail | ((first | (apply ops_split_t; rfl; rfl; exact nle rfl) | (apply ops_split_f; rfl; rfl; exact nle rfl) | (apply awp_cond; rfl)); all_goals (intro hc; have hp := hc; first | (simp at hp; done) | ((try simp at hp); first | (exfalso; omega) | skip))) | (apply awp_cond_any; rfl))
  all_goals try (exfalso; omega)
  (refine f_pure (rs := [.tmp 4]) ?_; (repeat' (first | exact rzl_nil | apply rzl_cons | exact rz_pure rfl | exact rz_ex | exact z_os | apply rz_agg | apply rz_tup | apply rz_clo | apply rz_int | apply rz_bool | apply rz_str | refine z_eq ?_ | apply rz_sl)); all_goals trace_state)
theorem a_mergeBegun : AFn C.P 5 [] (.v (.bool true)) := by
  have h1 : AFn C.P 6 [.sl false [], .sl false [[.v (str [102]), .v (.bool false), .v (str [49]), .v (.int .i64 1)]], .sl false [[.v (str [102]), .v (.bool false), .v (str [50]), .v (.int .i64 3)]]] (mgAV ([⟨[102], false, [50], 3⟩, ⟨[102, 32, 40, 49, 41], false, [49], 1⟩], [⟨[102], [102, 32, 40, 49, 41]⟩], 0)) := by
    have h := a_merge [] [⟨[102], false, [49], 1⟩] [⟨[102], false, [50], 3⟩] ⟨by simp, by simp⟩ ⟨by simp [Ent.small], by simp⟩ ⟨by simp [Ent.small], by simp⟩
    rw [show mergeA [] [⟨[102], false, [49], 1⟩] [⟨[102], false, [50], 3⟩] = ([⟨[102], false, [50], 3⟩, ⟨[102, 32, 40, 49, 41], false, [49], 1⟩], [⟨[102], [102, 32, 40, 49, 41]⟩], 0) from by decide +kernel] at h
    exact h
  refine acall_intro Tryz.func5 rfl _ Tryz.ntmps5 (Nat.le_of_ble_eq_true rfl) _ Tryz.results5 0 rfl rfl ?_
  repeat' (first | refine walk ?_ | (first | (refine o_fzl ?_) | (apply to_call Tryz.func6 rfl rfl; intro hIsFn; refine o_callp hIsFn (h1 ..) ?_)) | ((first | (apply ops_split_t; rfl; rfl; exact nle rfl) | (apply ops_split_f; rfl; rfl; exact nle rfl) | (apply awp_cond; rfl)); all_goals (intro hc; have hp := hc; first | (simp at hp; done) | ((try simp at hp); first | (exfalso; omega) | skip))) | (apply awp_cond_any; rfl))
  all_goals try (exfalso; simp_all; done)
  all_goals (apply fin_bool; rfl; simp; done)
end Go.Proofs.YtkkfilkmkdnboaaGreatDoor

/- Merges in the abstract layer, 14: the laws One, Again, Turns. -/
set_option linter.unusedSimpArgs false
set_option linter.unnecessarySimpa false
set_option linter.unusedVariables false
set_option maxHeartbeats 1000000
namespace Go.Proofs.YtkkfilkmkdnboaaGreatDoor
open Go.Ab Go.RowKit
set_option maxRecDepth 10000
attribute [local irreducible] Awp Ops OpsX Wanted Red ExOk Go.Ab.Fin ACall Rz RzL RzRows Enters ResOk RenV RenVL ArgV ArgVL
theorem Right.bigE {t : List Ent} (h : Right t) : EBig t := h.big
theorem verE_key (m t : List Ent) (e : Ent) : keyE (verE m t e) = keyE e := rfl
theorem law_mone (b u : List Ent) (hb : EBig b) (hu : EBig u) : AFn C.P 3 [entAV b, entAV u] (.v (.bool true)) := by
  have h1 := a_merge b u b hb hu hb
  have h2 := a_merge b b u hb hb hu
  have h3 := a_merge b u u hb hu hu
  have hg := a_mergeBegun
  by_cases hb0 : treeErr b = 0
  case neg =>
    rw [mergeA_e1 hb0] at h1 h2 h3
    generalize treeErr b = E at *
    unfold mgAV at h1 h2 h3
    dsimp only at h1 h2 h3
    refine acall_intro Tryz.func3 rfl _ Tryz.ntmps3 (Nat.le_of_ble_eq_true rfl) _ Tryz.results3 0 rfl rfl ?_
    repeat' (first | refine walk ?_ | (first | (apply to_call Tryz.func5 rfl rfl; intro hIsFn; refine o_callf hIsFn (hg ..) ?_; skip) | (apply to_call Tryz.func6 rfl rfl; intro hIsFn; refine o_callp hIsFn (h1 ..) ?_) | (apply to_call Tryz.func6 rfl rfl; intro hIsFn; refine o_callp hIsFn (h2 ..) ?_) | (apply to_call Tryz.func6 rfl rfl; intro hIsFn; refine o_callp hIsFn (h3 ..) ?_)) | ((first | (apply ops_split_t; rfl; rfl; exact nle rfl) | (apply ops_split_f; rfl; rfl; exact nle rfl) | (apply awp_cond; rfl)); all_goals (intro hc; have hp := hc; first | (simp at hp; done) | ((try simp at hp); first | (exfalso; omega) | skip))) | (apply awp_cond_any; rfl))
    all_goals try (exfalso; first | omega | contradiction | simp_all; done)
    all_goals (apply fin_bool; rfl; first | rfl | simp; done | simp_all; done)
  by_cases hu0 : treeErr u = 0
  case neg =>
    rw [mergeA_e2 hb0 hu0] at h1 h3
    rw [mergeA_e3 hb0 hb0 hu0] at h2
    generalize treeErr u = E at *
    unfold mgAV at h1 h2 h3
    dsimp only at h1 h2 h3
    refine acall_intro Tryz.func3 rfl _ Tryz.ntmps3 (Nat.le_of_ble_eq_true rfl) _ Tryz.results3 0 rfl rfl ?_
    repeat' (first | refine walk ?_ | (first | (apply to_call Tryz.func5 rfl rfl; intro hIsFn; refine o_callf hIsFn (hg ..) ?_; skip) | (apply to_call Tryz.func6 rfl rfl; intro hIsFn; refine o_callp hIsFn (h1 ..) ?_) | (apply to_call Tryz.func6 rfl rfl; intro hIsFn; refine o_callp hIsFn (h2 ..) ?_) | (apply to_call Tryz.func6 rfl rfl; intro hIsFn; refine o_callp hIsFn (h3 ..) ?_)) | ((first | (apply ops_split_t; rfl; rfl; exact nle rfl) | (apply ops_split_f; rfl; rfl; exact nle rfl) | (apply awp_cond; rfl)); all_goals (intro hc; have hp := hc; first | (simp at hp; done) | ((try simp at hp); first | (exfalso; omega) | skip))) | (apply awp_cond_any; rfl))
    all_goals try (exfalso; first | omega | contradiction | simp_all; done)
    all_goals (apply fin_bool; rfl; first | rfl | simp; done | simp_all; done)
  have rb := right_iff.1 hb0
  have ru := right_iff.1 hu0
  have lu := ru.len
  rw [mergeA_ok hb0 hu0 hb0, merge_one1 rb ru] at h1
  rw [mergeA_ok hb0 hb0 hu0, merge_one2 rb ru] at h2
  rw [mergeA_ok hb0 hu0 hu0, merge_one3 rb ru] at h3
  have hlk := a_like (u.map fun x => verE u b (ver1 x)) u (by rw [List.length_map]; omega) (likeL_one (fun x => by rfl) u)
  have hse := a_sameEntries u u (by omega) (by omega)
  rw [decide_eq_true rfl] at hse
  generalize (u.map fun x => verE u b (ver1 x)) = X at *
  unfold mgAV cpyAV at h1 h2 h3
  dsimp only at h1 h2 h3
  obtain ⟨R0, hR0, lR0⟩ : ∃ R0 : List (List AV), ([] : List Cpy).map Cpy.row = R0 ∧ R0.length = 0 := ⟨_, rfl, rfl⟩
  rw [hR0] at h1 h2 h3
  have d0 : decide ((R0.length : Int) + R0.length + R0.length = 0) = true := decide_eq_true (by omega)
  refine acall_intro Tryz.func3 rfl _ Tryz.ntmps3 (Nat.le_of_ble_eq_true rfl) _ Tryz.results3 0 rfl rfl ?_
  repeat' (first | refine walk ?_ | (first | (apply to_call Tryz.func5 rfl rfl; intro hIsFn; refine o_callf hIsFn (hg ..) ?_; skip) | (apply to_call Tryz.func6 rfl rfl; intro hIsFn; refine o_callp hIsFn (h1 ..) ?_) | (apply to_call Tryz.func6 rfl rfl; intro hIsFn; refine o_callp hIsFn (h2 ..) ?_) | (apply to_call Tryz.func6 rfl rfl; intro hIsFn; refine o_callp hIsFn (h3 ..) ?_) | (apply to_call Tryz.func7 rfl rfl; intro hIsFn; refine o_callf hIsFn (hlk ..) ?_; skip) | (apply to_call Tryz.func8 rfl rfl; intro hIsFn; refine o_callf hIsFn (hse ..) ?_; skip)) | ((first | (apply ops_split_t; rfl; rfl; exact nle rfl) | (apply ops_split_f; rfl; rfl; exact nle rfl) | (apply awp_cond; rfl)); all_goals (intro hc; have hp := hc; first | (simp at hp; done) | ((try simp at hp); first | (exfalso; omega) | skip))) | (apply awp_cond_any; rfl))
  all_goals try (exfalso; first | omega | contradiction | simp_all; done)
  all_goals (apply fin_bool; rfl; first | rfl | simp; done | simp_all; done)
theorem mergeA_right {b m t : List Ent} (h : (mergeA b m t).2.2 = 0) : treeErr b = 0 ∧ treeErr m = 0 ∧ treeErr t = 0 := by
  by_cases hb : treeErr b = 0
  case neg => rw [mergeA_e1 hb] at h; exact absurd h hb
  by_cases hm : treeErr m = 0
  case neg => rw [mergeA_e2 hb hm] at h; exact absurd h hm
  by_cases ht : treeErr t = 0
  case neg => rw [mergeA_e3 hb hm ht] at h; exact absurd h ht
  exact ⟨hb, hm, ht⟩
theorem mergeR_turns {b m t : List Ent} (h1 : (mergeR b m t).2.2 = 0) (h2 : (mergeR b t m).2.2 = 0) (hc : (mergeR b m t).2.1 = []) : (mergeR b t m).2.1 = [] ∧ likeL (mergeR b m t).1 (mergeR b t m).1 = true := by
  unfold mergeR at h1 h2 hc ⊢
  cases hs : mergeS b m t with
  | none => rw [hs] at h1; exact absurd h1 (show ¬ ((2 : Int) = 0) from by decide)
  | some s =>
    rw [hs] at h1 hc
    simp only at h1 hc
    by_cases h60 : 60 < s.out.length
    · rw [if_pos h60] at h1; exact absurd h1 (show ¬ ((2 : Int) = 0) from by decide)
    rw [if_neg h60] at hc
    have hc : s.cps = [] := hc
    rw [merge_turn hs hc]
    simp only
    simp only [if_neg h60]
    exact ⟨hc, likeL_ver (f := verE m t) (g := verE t m) (fun x => rfl) (fun x => rfl) s.out⟩
theorem law_mone_all (ys : List AV) (h : TyAllW C.tab 140737488355328 [22, 22] ys) : AFn C.P 3 ys (.v (.bool true)) := by
  obtain ⟨_, _, rfl, h0, _, _, rfl, h1, rfl⟩ := h
  obtain ⟨a, rfl, ha⟩ := tyv_ents h0
  obtain ⟨b, rfl, hb⟩ := tyv_ents h1
  exact law_mone a b ha hb
end Go.Proofs.YtkkfilkmkdnboaaGreatDoor
