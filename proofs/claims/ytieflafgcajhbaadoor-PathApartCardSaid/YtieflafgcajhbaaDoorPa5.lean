/- Paths in the abstract layer, 5: Check, Parent, Name, Join, In, Within, Moved. -/
import Derived.Test.YtieflafgcajhbaaDoorPa4
set_option linter.unusedSimpArgs false
set_option linter.unnecessarySimpa false
set_option maxHeartbeats 1000000
namespace Go.Proofs.YtieflafgcajhbaaDoor
open Go.Ab Go.RowKit
set_option maxRecDepth 10000
attribute [local irreducible] Awp Ops OpsX Wanted Red ExOk Go.Ab.Fin ACall Rz RzL RzRows Enters ResOk RenV RenVL ArgV ArgVL

theorem prefix_take (q s : Str) : q.isPrefixOf s = (decide (q.length ≤ s.length) && decide (s.take q.length = q)) := by
  rw [Bool.eq_iff_iff, List.isPrefixOf_iff_prefix, Bool.and_eq_true, decide_eq_true_iff, decide_eq_true_iff, List.prefix_iff_eq_take]
  constructor
  · intro h
    have h2 := congrArg List.length h
    rw [List.length_take] at h2
    exact ⟨by omega, h.symm⟩
  · rintro ⟨_, h⟩; exact h.symm
theorem a_prefixL (s q : Str) : AFn C.P 60 [.v (str s), .v (str q)] (.v (.bool (q.isPrefixOf s))) := by
  have hpt := prefix_take q s
  refine acall_intro Tryd.func60 rfl _ Tryd.ntmps60 (Nat.le_of_ble_eq_true rfl) _ Tryd.results60 0 rfl rfl ?_
  repeat' (first | refine walk ?_ | (first | (apply opsx_val; apply ex_slice_str (a := 0) (b := q.length); (case hx => rfl); (case hT => rfl); (case he => rfl); (case ha => rfl); (case hb => exact ⟨_, rfl⟩); (case hab => (first | omega | (simp; done) | (simp only [List.length_cons, List.length_nil, List.length_map]; omega) | (simp; omega))); (case hbl => (first | omega | (simp; done) | (simp only [List.length_cons, List.length_nil, List.length_map]; omega) | (simp; omega))); (case hN => exact nle rfl))) | ((first | (apply ops_split_t; rfl; rfl; exact nle rfl) | (apply ops_split_f; rfl; rfl; exact nle rfl) | (apply awp_cond; rfl)); all_goals (intro hc; have hp := hc; first | (simp at hp; done) | ((try simp at hp); first | (exfalso; omega) | skip))) | (apply awp_cond_any; rfl))
  all_goals try (exfalso; omega)
  · apply fin_bool
    rfl
    have : q.length ≤ s.length := by omega
    rw [hpt]; simp [this]
  · apply fin_bool
    rfl
    have : ¬ q.length ≤ s.length := by omega
    rw [hpt]; simp [this]
theorem a_prefix (s q : Str) : AFn C.P 49 [.v (str s), .v (str q)] (.v (.bool (q.isPrefixOf s))) := by
  refine acall_intro Tryd.func49 rfl _ Tryd.ntmps49 (Nat.le_of_ble_eq_true rfl) _ Tryd.results49 0 rfl rfl ?_
  repeat' (first | refine walk ?_ | (first | (apply to_call Tryd.func60 rfl rfl; intro hIsFn; refine o_callf hIsFn (a_prefixL s q ..) ?_; skip)) | ((first | (apply awp_cond; rfl)); all_goals (intro hc; have hp := hc; first | (simp at hp; done) | ((try simp at hp); first | (exfalso; omega) | skip))) | (apply awp_cond_any; rfl))
  apply fin_bool
  rfl
  rfl
theorem a_in (p q : Str) (hq : q.length ≤ 140737488355328) : AFn C.P 39 [.v (str p), .v (str q)] (.v (.bool (inB p q))) := by
  have hpr := a_prefix p (q ++ [47])
  refine acall_intro Tryd.func39 rfl _ Tryd.ntmps39 (Nat.le_of_ble_eq_true rfl) _ Tryd.results39 0 rfl rfl ?_
  repeat' (first | refine walk ?_ | (first | (apply to_call Tryd.func49 rfl rfl; intro hIsFn; refine o_callf hIsFn (hpr ..) ?_; skip)) | ((first | (apply ops_split_t; rfl; rfl; exact nle rfl) | (apply ops_split_f; rfl; rfl; exact nle rfl) | (apply awp_cond; rfl)); all_goals (intro hc; have hp := hc; first | (simp at hp; done) | ((try simp at hp); first | (exfalso; omega) | skip))) | (apply awp_cond_any; rfl))
  all_goals (apply fin_bool; rfl; simp_all [inB])
theorem pathsErr_one (p : Str) : pathsErr [p] = pathErr p := by
  simp only [pathsErr]; split <;> simp_all
theorem a_check1 (p : Str) (hp : p.length ≤ 140737488355328) : AFn C.P 31 [.sl false [[.v (str p)]]] (.v (.int .i64 (pathErr p))) := by
  have := a_check [p] (by simp) (by simpa using hp)
  rw [pathsErr_one] at this
  exact this
theorem a_pcheck (p : Str) (hp : p.length ≤ 140737488355328) : AFn C.P 16 [.v (str p)] (.v (.int .i64 (pathErr p))) := by
  have hch := a_check1 p hp
  refine acall_intro Tryd.func16 rfl _ Tryd.ntmps16 (Nat.le_of_ble_eq_true rfl) _ Tryd.results16 0 rfl rfl ?_
  repeat' (first | refine walk ?_ | (first | (refine o_fzl ?_) | (apply to_call Tryd.func31 rfl rfl; intro hIsFn; refine o_callp hIsFn (hch ..) ?_)) | ((first | (apply awp_cond; rfl)); all_goals (intro hc; have hp := hc; first | (simp at hp; done) | ((try simp at hp); first | (exfalso; omega) | skip))) | (apply awp_cond_any; rfl))
  apply fin_int
  rfl
  rfl
def okOr (e : Int) (s : Str) : Str := if e = 0 then s else []
theorem a_parent (p : Str) (hp : p.length ≤ 140737488355328) : AFn C.P 17 [.v (str p)] (.tup [.v (str (okOr (pathErr p) (parentOf p))), .v (.int .i64 (pathErr p))]) := by
  have hch := a_check1 p hp
  have hsp := a_split p (by omega)
  refine acall_intro Tryd.func17 rfl _ Tryd.ntmps17 (Nat.le_of_ble_eq_true rfl) _ Tryd.results17 0 rfl rfl ?_
  repeat' (first | refine walk ?_ | (first | (refine o_fzl ?_) | (apply to_call Tryd.func31 rfl rfl; intro hIsFn; refine o_callp hIsFn (hch ..) ?_) | (apply to_call Tryd.func32 rfl rfl; intro hIsFn; refine o_callp hIsFn (hsp ..) ?_)) | ((first | (apply awp_cond; rfl)); all_goals (intro hc; have hp := hc; first | (simp at hp; done) | ((try simp at hp); first | (exfalso; omega) | skip))) | (apply awp_cond_any; rfl))
  · (refine f_pure (rs := [.tmp 2, .tmp 3]) ?_; (repeat' (first | exact rzl_nil | apply rzl_cons | exact rz_pure rfl | exact rz_ex | exact z_os | apply rz_agg | apply rz_tup | apply rz_clo | apply rz_int | apply rz_bool | apply rz_str | refine z_eq ?_ | apply rz_sl)); all_goals (simp_all [okOr]))
  · (refine f_pure (rs := [.tmp 2, .tmp 3]) ?_; (repeat' (first | exact rzl_nil | apply rzl_cons | exact rz_pure rfl | exact rz_ex | exact z_os | apply rz_agg | apply rz_tup | apply rz_clo | apply rz_int | apply rz_bool | apply rz_str | refine z_eq ?_ | apply rz_sl)); all_goals (simp_all [okOr]))
theorem a_name (p : Str) (hp : p.length ≤ 140737488355328) : AFn C.P 18 [.v (str p)] (.tup [.v (str (okOr (pathErr p) (lastOf p))), .v (.int .i64 (pathErr p))]) := by
  have hch := a_check1 p hp
  have hsp := a_split p (by omega)
  refine acall_intro Tryd.func18 rfl _ Tryd.ntmps18 (Nat.le_of_ble_eq_true rfl) _ Tryd.results18 0 rfl rfl ?_
  repeat' (first | refine walk ?_ | (first | (refine o_fzl ?_) | (apply to_call Tryd.func31 rfl rfl; intro hIsFn; refine o_callp hIsFn (hch ..) ?_) | (apply to_call Tryd.func32 rfl rfl; intro hIsFn; refine o_callp hIsFn (hsp ..) ?_)) | ((first | (apply awp_cond; rfl)); all_goals (intro hc; have hp := hc; first | (simp at hp; done) | ((try simp at hp); first | (exfalso; omega) | skip))) | (apply awp_cond_any; rfl))
  · (refine f_pure (rs := [.tmp 2, .tmp 3]) ?_; (repeat' (first | exact rzl_nil | apply rzl_cons | exact rz_pure rfl | exact rz_ex | exact z_os | apply rz_agg | apply rz_tup | apply rz_clo | apply rz_int | apply rz_bool | apply rz_str | refine z_eq ?_ | apply rz_sl)); all_goals (simp_all [okOr]))
  · (refine f_pure (rs := [.tmp 2, .tmp 3]) ?_; (repeat' (first | exact rzl_nil | apply rzl_cons | exact rz_pure rfl | exact rz_ex | exact z_os | apply rz_agg | apply rz_tup | apply rz_clo | apply rz_int | apply rz_bool | apply rz_str | refine z_eq ?_ | apply rz_sl)); all_goals (simp_all [okOr]))
def joinErr (p n : Str) : Int := if ¬ p = [] ∧ ¬ pathErr p = 0 then pathErr p else if isName n then (if tooGreat (joinOf p n) then 2 else 0) else 1
theorem a_join (p n : Str) (hp : p.length ≤ 140737488355328) (hn : n.length ≤ 140737488355328) : AFn C.P 24 [.v (str p), .v (str n)] (.tup [.v (str (okOr (joinErr p n) (joinOf p n))), .v (.int .i64 (joinErr p n))]) := by
  have hch := a_check1 p hp
  have hnm := g_isName n hn
  have hj := a_joined p n hp (by omega)
  have hg := a_great (joinOf p n)
  refine acall_intro Tryd.func24 rfl _ Tryd.ntmps24 (Nat.le_of_ble_eq_true rfl) _ Tryd.results24 0 rfl rfl ?_
  repeat' (first | refine walk ?_ | (first | (refine o_fzl ?_) | (apply to_call Tryd.func31 rfl rfl; intro hIsFn; refine o_callp hIsFn (hch ..) ?_) | (apply to_call Tryd.func40 rfl rfl; intro hIsFn; refine o_callf hIsFn (hnm ..) ?_; skip) | (apply to_call Tryd.func36 rfl rfl; intro hIsFn; refine o_callf hIsFn (hj ..) ?_; skip) | (apply to_call Tryd.func37 rfl rfl; intro hIsFn; refine o_callf hIsFn (hg ..) ?_; skip)) | ((first | (apply awp_cond; rfl)); all_goals (intro hc; have hp := hc; first | (simp at hp; done) | ((try simp at hp); first | (exfalso; omega) | skip))) | (apply awp_cond_any; rfl))
  all_goals ((refine f_pure (rs := [.tmp 4, .tmp 5]) ?_; (repeat' (first | exact rzl_nil | apply rzl_cons | exact rz_pure rfl | exact rz_ex | exact z_os | apply rz_agg | apply rz_tup | apply rz_clo | apply rz_int | apply rz_bool | apply rz_str | refine z_eq ?_ | apply rz_sl)); all_goals (simp_all [okOr, joinErr])))
theorem a_within (p q : Str) (hp : p.length ≤ 140737488355328) (hq : q.length ≤ 140737488355328) : AFn C.P 21 [.v (str p), .v (str q)] (.tup [.v (.bool (decide (pathsErr [p, q] = 0) && inB p q)), .v (.int .i64 (pathsErr [p, q]))]) := by
  have hch : AFn C.P 31 [.sl false [[.v (str p)], [.v (str q)]]] (.v (.int .i64 (pathsErr [p, q]))) := a_check [p, q] (by simp) (by simpa using ⟨hp, hq⟩)
  have hi := a_in p q hq
  refine acall_intro Tryd.func21 rfl _ Tryd.ntmps21 (Nat.le_of_ble_eq_true rfl) _ Tryd.results21 0 rfl rfl ?_
  repeat' (first | refine walk ?_ | (first | (refine o_fzl ?_) | (apply to_call Tryd.func31 rfl rfl; intro hIsFn; refine o_callp hIsFn (hch ..) ?_) | (apply to_call Tryd.func39 rfl rfl; intro hIsFn; refine o_callf hIsFn (hi ..) ?_; skip)) | ((first | (apply awp_cond; rfl)); all_goals (intro hc; have hp := hc; first | (simp at hp; done) | ((try simp at hp); first | (exfalso; omega) | skip))) | (apply awp_cond_any; rfl))
  all_goals ((refine f_pure (rs := [.tmp 4, .tmp 5]) ?_; (repeat' (first | exact rzl_nil | apply rzl_cons | exact rz_pure rfl | exact rz_ex | exact z_os | apply rz_agg | apply rz_tup | apply rz_clo | apply rz_int | apply rz_bool | apply rz_str | refine z_eq ?_ | apply rz_sl)); all_goals (simp_all)))
def movedErr (p f t : Str) : Int := if pathsErr [p, f, t] = 0 then (if inB p f then (if tooGreat (t ++ p.drop f.length) then 2 else 0) else 5) else pathsErr [p, f, t]
theorem inB_len {p f : Str} (h : inB p f = true) : f.length ≤ p.length := by
  simp only [inB, Bool.or_eq_true, decide_eq_true_eq, List.isPrefixOf_iff_prefix] at h
  rcases h with rfl | h
  · exact Nat.le_refl _
  · have := h.length_le; simp at this; omega
theorem a_moved (p f t : Str) (hp : p.length ≤ 140737488355328) (hf : f.length ≤ 140737488355328) (ht : t.length ≤ 140737488355328) : AFn C.P 28 [.v (str p), .v (str f), .v (str t)] (.tup [.v (str (okOr (movedErr p f t) (t ++ p.drop f.length))), .v (.int .i64 (movedErr p f t))]) := by
  have hch : AFn C.P 31 [.sl false [[.v (str p)], [.v (str f)], [.v (str t)]]] (.v (.int .i64 (pathsErr [p, f, t]))) := a_check [p, f, t] (by simp) (by simpa using ⟨hp, hf, ht⟩)
  have hi := a_in p f hf
  have hg := a_great (t ++ p.drop f.length)
  have hln := @inB_len p f
  have htk : p.take p.length = p := List.take_length
  cases hb : inB p f with
  | false =>
    rw [hb] at hi
    refine acall_intro Tryd.func28 rfl _ Tryd.ntmps28 (Nat.le_of_ble_eq_true rfl) _ Tryd.results28 0 rfl rfl ?_
    repeat' (first | refine walk ?_ | (first | (refine o_fzl ?_) | (apply to_call Tryd.func31 rfl rfl; intro hIsFn; refine o_callp hIsFn (hch ..) ?_) | (apply to_call Tryd.func39 rfl rfl; intro hIsFn; refine o_callf hIsFn (hi ..) ?_; skip)) | ((first | (apply awp_cond; rfl)); all_goals (intro hc; have hp := hc; first | (simp at hp; done) | ((try simp at hp); first | (exfalso; omega) | skip))) | (apply awp_cond_any; rfl))
    all_goals ((refine f_pure (rs := [.tmp 6, .tmp 7]) ?_; (repeat' (first | exact rzl_nil | apply rzl_cons | exact rz_pure rfl | exact rz_ex | exact z_os | apply rz_agg | apply rz_tup | apply rz_clo | apply rz_int | apply rz_bool | apply rz_str | refine z_eq ?_ | apply rz_sl)); all_goals (simp_all [okOr, movedErr])))
  | true =>
    rw [hb] at hi
    have hfl := hln hb
    have hdl : (p.drop f.length).length ≤ p.length := by simp
    refine acall_intro Tryd.func28 rfl _ Tryd.ntmps28 (Nat.le_of_ble_eq_true rfl) _ Tryd.results28 0 rfl rfl ?_
    repeat' (first | refine walk ?_ | (first | (refine o_fzl ?_) | (apply to_call Tryd.func31 rfl rfl; intro hIsFn; refine o_callp hIsFn (hch ..) ?_) | (apply to_call Tryd.func39 rfl rfl; intro hIsFn; refine o_callf hIsFn (hi ..) ?_; skip) | (apply opsx_val; apply ex_slice_str (a := f.length) (b := p.length); (case hx => rfl); (case hT => rfl); (case he => rfl); (case ha => exact ⟨_, rfl⟩); (case hb => rfl); (case hab => (first | omega | (simp; done) | (simp only [List.length_cons, List.length_nil, List.length_map]; omega) | (simp; omega))); (case hbl => (first | omega | (simp; done) | (simp only [List.length_cons, List.length_nil, List.length_map]; omega) | (simp; omega))); (case hN => exact nle rfl)) | (apply to_call Tryd.func37 rfl rfl; intro hIsFn; refine o_callf hIsFn ((htk.symm ▸ hg) ..) ?_; skip)) | ((first | (apply awp_cond; rfl)); all_goals (intro hc; have hp := hc; first | (simp at hp; done) | ((try simp at hp); first | (exfalso; omega) | skip))) | (apply awp_cond_any; rfl))
    all_goals ((refine f_pure (rs := [.tmp 6, .tmp 7]) ?_; (repeat' (first | exact rzl_nil | apply rzl_cons | exact rz_pure rfl | exact rz_ex | exact z_os | apply rz_agg | apply rz_tup | apply rz_clo | apply rz_int | apply rz_bool | apply rz_str | refine z_eq ?_ | apply rz_sl)); all_goals (simp_all [okOr, movedErr])))
end Go.Proofs.YtieflafgcajhbaaDoor
