import Derived.Test.YtkkfilkmkdnboaaDoorMz21
import Derived.Test.YtkkfilkmkdnboaaDoorMz22
/- The reference's trees, 1: PutEntry, SameEntries, treeIs. -/
set_option linter.unusedSimpArgs false
set_option linter.unnecessarySimpa false
set_option linter.unusedVariables false
set_option maxHeartbeats 1000000
namespace Go.Proofs.YtkkfilkmkdnboaaDoor
open Go.Ab Go.RowKit
set_option maxRecDepth 10000
attribute [local irreducible] Awp Ops OpsX Wanted Red ExOk Go.Ab.Fin ACall Rz RzL RzRows Enters ResOk RenV RenVL ArgV ArgVL

theorem take_two (o : List Ent) (r s : List AV) {y z : Ent} (hr : r = y.row := by rfl) (hs : s = z.row := by rfl) : (((o.map Ent.row).take o.length ++ [r]).take (o.length + 1)) ++ [s] = (o ++ ([y] ++ [z])).map Ent.row := by
  subst hr; subst hs
  have e1 : (o.map Ent.row).take o.length = o.map Ent.row := List.take_of_length_le (by simp)
  rw [e1, List.take_of_length_le (by simp)]
  simp
theorem a_putEntryR (t : List Ent) (x : Ent) (hl : t.length ≤ 400000) : AFn C.P 105 [entAV t, .agg x.row] (entAV (putR t x)) := by
  refine acall_intro Tryd.func105 rfl _ Tryd.ntmps105 (Nat.le_of_ble_eq_true rfl) _ Tryd.results105 0 rfl rfl ?_
  repeat' (first | refine walk ?_ | fail | ((first | (apply ops_split_t; rfl; rfl; exact nle rfl) | (apply ops_split_f; rfl; rfl; exact nle rfl) | (apply awp_cond; rfl)); all_goals (intro hc; have hp := hc; first | (simp at hp; done) | ((try simp at hp); first | (exfalso; omega) | skip))) | (apply awp_cond_any; rfl))
  refine Awp.red (red_nil 5 4 rfl (Nat.zero_le _)) ?_
  (refine Awp.red (red_ren (τ := ⟨[(0, entAV t), (3, .op 0 0 0), (5, .os 1 0 0), (6, .v (.bool false)), (7, .v (.int .i64 ((0 : Nat) : Int)))], [(0, .own false 4 [x.row]), (1, .own false 4 [])], 2⟩) [(0, 0), (1, 1)] rfl ?gts ?ghs) ?gmain; (case gts => (repeat (first | exact tsok_nil | refine p_pure ?_ | refine p_op ?_ | refine p_os ?_ | refine p_eq ?_ ?_)); all_goals skip); (case ghs => (repeat (first | exact hsok_nil | refine q_id ?_ | refine q_idx ?_ ?_))))
  refine awp_loop (fun n σ => ∃ i : Nat, i ≤ t.length ∧ n = t.length - i ∧ (True) ∧ σ = ⟨[(0, entAV t), (3, .op 0 0 0), (5, .os 1 0 (putF (t.take i) x).1.length), (6, .v (.bool (putF (t.take i) x).2)), (7, .v (.int .i64 (i : Int)))], [(0, .own false 4 [x.row]), (1, .own false 4 ((putF (t.take i) x).1.map Ent.row))], 2⟩) t.length ⟨0, Nat.zero_le _, rfl, trivial, rfl⟩ ?_
  rintro n σ ⟨i, hi, rfl, -, rfl⟩
  have hgl := putF_len (t.take i) x
  have htl : (t.take i).length ≤ t.length := by simp; omega
  by_cases hlt : i < t.length
  · have hr := getRow (f := Ent.row) hlt
    have hgs := @putF_succ t x i hlt
    generalize putF (t.take i) x = G at *
    obtain ⟨o, b⟩ := G
    simp only [putStep] at hgs
    have hgl : o.length ≤ 2 * (t.take i).length := hgl
    cases b <;> cases hless : Op.bytesLess t[i].path x.path <;> by_cases hpe : t[i].path = x.path
    all_goals try (exfalso; rw [hpe, bl_irr] at hless; exact absurd hless (by decide))
    all_goals simp only [hless, hpe, bl_irr, if_true, if_false, and_true, and_false, and_self, Bool.false_or, Bool.true_or, Bool.not_true, Bool.not_false, List.append_nil, Bool.true_eq_false, Bool.false_eq_true, List.append_assoc] at hgs
    all_goals (
      repeat' (first | refine walk ?_ | (first | (refine o_fzl ?_) | (refine o_appo ?_)) | ((first | (apply ops_split_t; rfl; rfl; exact nle rfl) | (apply ops_split_f; rfl; rfl; exact nle rfl) | (apply awp_cond; rfl)); all_goals (intro hc; have hp := hc; first | (simp at hp; done) | ((try simp at hp); first | (exfalso; omega) | skip))) | (apply awp_cond_any; rfl)))
    all_goals try (exfalso; first | omega | contradiction | (simp_all; done))
    · refine ⟨t.length - (i + 1), _, by omega, red_ren (τ := ⟨[(0, entAV t), (3, .op 0 0 0), (5, .os 1 0 (putF (t.take (i + 1)) x).1.length), (6, .v (.bool (putF (t.take (i + 1)) x).2)), (7, .v (.int .i64 ((i + 1 : Nat) : Int)))], [(0, .own false 4 [x.row]), (1, .own false 4 ((putF (t.take (i + 1)) x).1.map Ent.row))], 2⟩) [(0, 0), (2, 1)] rfl ?gts ?ghs, i + 1, by omega, rfl, trivial, rfl⟩; (case gts => (repeat (first | exact tsok_nil | refine p_pure ?_ | refine p_op ?_ | refine p_os ?_ | refine p_eq ?_ ?_)); all_goals (rw [hgs]; try first | (simp only [List.length_append, List.length_cons, List.length_nil, List.map_append, List.map_cons, List.map_nil, List.append_assoc, List.cons_append, List.nil_append]; done) | (rw [List.take_of_length_le (by simp)]; simp; done) | (simp; done) | exact take_two o x.row _)); (case ghs => (repeat (first | exact hsok_nil | refine q_id ?_ | refine q_idx ?_ ?_)); all_goals (rw [hgs]; try first | (simp only [List.length_append, List.length_cons, List.length_nil, List.map_append, List.map_cons, List.map_nil, List.append_assoc, List.cons_append, List.nil_append]; done) | (rw [List.take_of_length_le (by simp)]; simp; done) | (simp; done) | exact take_two o x.row _))
    · refine ⟨t.length - (i + 1), _, by omega, red_ren (τ := ⟨[(0, entAV t), (3, .op 0 0 0), (5, .os 1 0 (putF (t.take (i + 1)) x).1.length), (6, .v (.bool (putF (t.take (i + 1)) x).2)), (7, .v (.int .i64 ((i + 1 : Nat) : Int)))], [(0, .own false 4 [x.row]), (1, .own false 4 ((putF (t.take (i + 1)) x).1.map Ent.row))], 2⟩) [(0, 0), (3, 1)] rfl ?gts ?ghs, i + 1, by omega, rfl, trivial, rfl⟩; (case gts => (repeat (first | exact tsok_nil | refine p_pure ?_ | refine p_op ?_ | refine p_os ?_ | refine p_eq ?_ ?_)); all_goals (rw [hgs]; try first | (simp only [List.length_append, List.length_cons, List.length_nil, List.map_append, List.map_cons, List.map_nil, List.append_assoc, List.cons_append, List.nil_append]; done) | (rw [List.take_of_length_le (by simp)]; simp; done) | (simp; done) | exact take_two o x.row _)); (case ghs => (repeat (first | exact hsok_nil | refine q_id ?_ | refine q_idx ?_ ?_)); all_goals (rw [hgs]; try first | (simp only [List.length_append, List.length_cons, List.length_nil, List.map_append, List.map_cons, List.map_nil, List.append_assoc, List.cons_append, List.nil_append]; done) | (rw [List.take_of_length_le (by simp)]; simp; done) | (simp; done) | exact take_two o x.row _))
    · refine ⟨t.length - (i + 1), _, by omega, red_ren (τ := ⟨[(0, entAV t), (3, .op 0 0 0), (5, .os 1 0 (putF (t.take (i + 1)) x).1.length), (6, .v (.bool (putF (t.take (i + 1)) x).2)), (7, .v (.int .i64 ((i + 1 : Nat) : Int)))], [(0, .own false 4 [x.row]), (1, .own false 4 ((putF (t.take (i + 1)) x).1.map Ent.row))], 2⟩) [(0, 0), (2, 1)] rfl ?gts ?ghs, i + 1, by omega, rfl, trivial, rfl⟩; (case gts => (repeat (first | exact tsok_nil | refine p_pure ?_ | refine p_op ?_ | refine p_os ?_ | refine p_eq ?_ ?_)); all_goals (rw [hgs]; try first | (simp only [List.length_append, List.length_cons, List.length_nil, List.map_append, List.map_cons, List.map_nil, List.append_assoc, List.cons_append, List.nil_append]; done) | (rw [List.take_of_length_le (by simp)]; simp; done) | (simp; done) | exact take_two o x.row _)); (case ghs => (repeat (first | exact hsok_nil | refine q_id ?_ | refine q_idx ?_ ?_)); all_goals (rw [hgs]; try first | (simp only [List.length_append, List.length_cons, List.length_nil, List.map_append, List.map_cons, List.map_nil, List.append_assoc, List.cons_append, List.nil_append]; done) | (rw [List.take_of_length_le (by simp)]; simp; done) | (simp; done) | exact take_two o x.row _))
    · refine ⟨t.length - (i + 1), _, by omega, red_ren (τ := ⟨[(0, entAV t), (3, .op 0 0 0), (5, .os 1 0 (putF (t.take (i + 1)) x).1.length), (6, .v (.bool (putF (t.take (i + 1)) x).2)), (7, .v (.int .i64 ((i + 1 : Nat) : Int)))], [(0, .own false 4 [x.row]), (1, .own false 4 ((putF (t.take (i + 1)) x).1.map Ent.row))], 2⟩) [(0, 0), (1, 1)] rfl ?gts ?ghs, i + 1, by omega, rfl, trivial, rfl⟩; (case gts => (repeat (first | exact tsok_nil | refine p_pure ?_ | refine p_op ?_ | refine p_os ?_ | refine p_eq ?_ ?_)); all_goals (rw [hgs]; try first | (simp only [List.length_append, List.length_cons, List.length_nil, List.map_append, List.map_cons, List.map_nil, List.append_assoc, List.cons_append, List.nil_append]; done) | (rw [List.take_of_length_le (by simp)]; simp; done) | (simp; done) | exact take_two o x.row _)); (case ghs => (repeat (first | exact hsok_nil | refine q_id ?_ | refine q_idx ?_ ?_)); all_goals (rw [hgs]; try first | (simp only [List.length_append, List.length_cons, List.length_nil, List.map_append, List.map_cons, List.map_nil, List.append_assoc, List.cons_append, List.nil_append]; done) | (rw [List.take_of_length_le (by simp)]; simp; done) | (simp; done) | exact take_two o x.row _))
    · refine ⟨t.length - (i + 1), _, by omega, red_ren (τ := ⟨[(0, entAV t), (3, .op 0 0 0), (5, .os 1 0 (putF (t.take (i + 1)) x).1.length), (6, .v (.bool (putF (t.take (i + 1)) x).2)), (7, .v (.int .i64 ((i + 1 : Nat) : Int)))], [(0, .own false 4 [x.row]), (1, .own false 4 ((putF (t.take (i + 1)) x).1.map Ent.row))], 2⟩) [(0, 0), (2, 1)] rfl ?gts ?ghs, i + 1, by omega, rfl, trivial, rfl⟩; (case gts => (repeat (first | exact tsok_nil | refine p_pure ?_ | refine p_op ?_ | refine p_os ?_ | refine p_eq ?_ ?_)); all_goals (rw [hgs]; try first | (simp only [List.length_append, List.length_cons, List.length_nil, List.map_append, List.map_cons, List.map_nil, List.append_assoc, List.cons_append, List.nil_append]; done) | (rw [List.take_of_length_le (by simp)]; simp; done) | (simp; done) | exact take_two o x.row _)); (case ghs => (repeat (first | exact hsok_nil | refine q_id ?_ | refine q_idx ?_ ?_)); all_goals (rw [hgs]; try first | (simp only [List.length_append, List.length_cons, List.length_nil, List.map_append, List.map_cons, List.map_nil, List.append_assoc, List.cons_append, List.nil_append]; done) | (rw [List.take_of_length_le (by simp)]; simp; done) | (simp; done) | exact take_two o x.row _))
    · refine ⟨t.length - (i + 1), _, by omega, red_ren (τ := ⟨[(0, entAV t), (3, .op 0 0 0), (5, .os 1 0 (putF (t.take (i + 1)) x).1.length), (6, .v (.bool (putF (t.take (i + 1)) x).2)), (7, .v (.int .i64 ((i + 1 : Nat) : Int)))], [(0, .own false 4 [x.row]), (1, .own false 4 ((putF (t.take (i + 1)) x).1.map Ent.row))], 2⟩) [(0, 0), (2, 1)] rfl ?gts ?ghs, i + 1, by omega, rfl, trivial, rfl⟩; (case gts => (repeat (first | exact tsok_nil | refine p_pure ?_ | refine p_op ?_ | refine p_os ?_ | refine p_eq ?_ ?_)); all_goals (rw [hgs]; try first | (simp only [List.length_append, List.length_cons, List.length_nil, List.map_append, List.map_cons, List.map_nil, List.append_assoc, List.cons_append, List.nil_append]; done) | (rw [List.take_of_length_le (by simp)]; simp; done) | (simp; done) | exact take_two o x.row _)); (case ghs => (repeat (first | exact hsok_nil | refine q_id ?_ | refine q_idx ?_ ?_)); all_goals (rw [hgs]; try first | (simp only [List.length_append, List.length_cons, List.length_nil, List.map_append, List.map_cons, List.map_nil, List.append_assoc, List.cons_append, List.nil_append]; done) | (rw [List.take_of_length_le (by simp)]; simp; done) | (simp; done) | exact take_two o x.row _))
  obtain rfl : i = t.length := by omega
  rw [List.take_length] at *
  have hR : putR t x = if (putF t x).2 = true then (putF t x).1 else (putF t x).1 ++ [x] := rfl
  generalize putF t x = G at *
  obtain ⟨o, b⟩ := G
  have hgl : o.length ≤ 2 * t.length := hgl
  cases b
  · have hR : putR t x = o ++ [x] := hR
    rw [hR]
    repeat' (first | refine walk ?_ | (first | (refine o_fzl ?_) | (refine o_appo ?_)) | ((first | (apply ops_split_t; rfl; rfl; exact nle rfl) | (apply ops_split_f; rfl; rfl; exact nle rfl) | (apply awp_cond; rfl)); all_goals (intro hc; have hp := hc; first | (simp at hp; done) | ((try simp at hp); first | (exfalso; omega) | skip))) | (apply awp_cond_any; rfl))
    all_goals try (exfalso; omega)
    (refine f_pure (rs := [.tmp 4]) ?_; (repeat' (first | exact rzl_nil | apply rzl_cons | exact rz_pure rfl | exact rz_ex | exact z_os | apply rz_agg | apply rz_tup | apply rz_clo | apply rz_int | apply rz_bool | apply rz_str | refine z_eq ?_ | apply rz_sl)); all_goals (show (o.map Ent.row).take o.length ++ [x.row] = _; rw [List.take_of_length_le (by simp)]; simp))
  · have hR : putR t x = o := hR
    rw [hR]
    repeat' (first | refine walk ?_ | (first | (refine o_fzl ?_) | (refine o_appo ?_)) | ((first | (apply ops_split_t; rfl; rfl; exact nle rfl) | (apply ops_split_f; rfl; rfl; exact nle rfl) | (apply awp_cond; rfl)); all_goals (intro hc; have hp := hc; first | (simp at hp; done) | ((try simp at hp); first | (exfalso; omega) | skip))) | (apply awp_cond_any; rfl))
    all_goals try (exfalso; omega)
    (refine f_pure (rs := [.tmp 4]) ?_; (repeat' (first | exact rzl_nil | apply rzl_cons | exact rz_pure rfl | exact rz_ex | exact z_os | apply rz_agg | apply rz_tup | apply rz_clo | apply rz_int | apply rz_bool | apply rz_str | refine z_eq ?_ | apply rz_sl)); all_goals trace_state)
theorem eqK_ent : eqKs C.P 65 = some [1, 2, 1, 0] := by kernel_rfl
theorem rowEq_ent (a b : Ent) : rowEq [1, 2, 1, 0] a.row b.row = some (decide (a = b)) := by
  obtain ⟨a1, a2, a3, a4⟩ := a
  obtain ⟨b1, b2, b3, b4⟩ := b
  simp only [Ent.row, rowEq, cellEq, str, Ent.mk.injEq, if_true, Option.some.injEq]
  by_cases h1 : a1 = b1 <;> by_cases h2 : a2 = b2 <;> by_cases h3 : a3 = b3 <;> by_cases h4 : a4 = b4 <;> simp [h1, h2, h3, h4]
theorem take_same {α : Type} {a b : List α} {i : Nat} (h1 : i < a.length) (h2 : i < b.length) (h : a.take i = b.take i) (h3 : a[i] = b[i]) : a.take (i + 1) = b.take (i + 1) := by
  rw [List.take_succ_eq_append_getElem h1, List.take_succ_eq_append_getElem h2, h, h3]
theorem a_sameEntries (a b : List Ent) (ha : a.length ≤ 140737488355328) (hb : b.length ≤ 140737488355328) : AFn C.P 29 [entAV a, entAV b] (.v (.bool (decide (a = b)))) := by
  have hma : (a.map Ent.row).length = a.length := List.length_map ..
  have hmb : (b.map Ent.row).length = b.length := List.length_map ..
  refine acall_intro Tryd.func29 rfl _ Tryd.ntmps29 (Nat.le_of_ble_eq_true rfl) _ Tryd.results29 0 rfl rfl ?_
  repeat' (first | refine walk ?_ | fail | ((first | (apply awp_cond; rfl)); all_goals (intro hc; have hp := hc; first | (simp at hp; done) | ((try simp at hp); first | (exfalso; omega) | skip))) | (apply awp_cond_any; rfl))
  · apply fin_bool
    rfl
    have hne : ¬ a = b := fun e => by subst e; simp at *
    simp [hne]
  have hab : a.length = b.length := by simp at *; omega
  (refine Awp.red (red_pure (ts := [(0, entAV a), (1, entAV b), (5, .v (.int .i64 ((0 : Nat) : Int)))]) ?_) ?_; ((repeat (first | exact tsok_nil | refine p_pure ?_ | refine p_eq ?_ ?_))))
  refine awp_loop (fun n σ => ∃ i : Nat, i ≤ a.length ∧ n = a.length - i ∧ (a.take i = b.take i) ∧ σ = ⟨[(0, entAV a), (1, entAV b), (5, .v (.int .i64 (i : Int)))], [], C.nh⟩) a.length ⟨0, Nat.zero_le _, rfl, rfl, rfl⟩ ?_
  rintro n σ ⟨i, hi, rfl, hsofar, rfl⟩
  by_cases hlt : i < a.length
  · have hlt2 : i < b.length := by omega
    have hr := getRow (f := Ent.row) hlt
    have hr' := getRow (f := Ent.row) hlt2
    have hnx := take_same hlt hlt2 hsofar
    repeat' (first | refine walk ?_ | (first | (apply opsx_val; apply ex_rowEq; rfl; rfl; exact eqK_ent; exact rowEq_ent _ _; (first | exact .inl ⟨rfl, rfl⟩ | exact .inr ⟨rfl, rfl⟩); exact nle rfl)) | ((first | (apply awp_cond; rfl)); all_goals (intro hc; have hp := hc; first | (simp at hp; done) | ((try simp at hp); first | (exfalso; omega) | skip))) | (apply awp_cond_any; rfl))
    all_goals try (exfalso; omega)
    · apply fin_bool
      rfl
      have hne : ¬ a = b := fun e => by subst e; simp at *
      simp [hne]
    · refine ⟨a.length - (i + 1), _, by omega, red_pure (ts := [(0, entAV a), (1, entAV b), (5, .v (.int .i64 ((i + 1 : Nat) : Int)))]) ?_, i + 1, by omega, rfl, (hnx (by simp_all)), rfl⟩; ((repeat (first | exact tsok_nil | refine p_pure ?_ | refine p_eq ?_ ?_)))
  obtain rfl : i = a.length := by omega
  have he : a = b := by rw [List.take_length] at hsofar; rw [hsofar, hab, List.take_length]
  repeat' (first | refine walk ?_ | fail | ((first | (apply awp_cond; rfl)); all_goals (intro hc; have hp := hc; first | (simp at hp; done) | ((try simp at hp); first | (exfalso; omega) | skip))) | (apply awp_cond_any; rfl))
  all_goals try (exfalso; omega)
  apply fin_bool
  rfl
  simp [he]
def treeIsB (t : List Ent) (e w : Int) (want : List Ent) : Bool := decide (e = w) && decide (t = (if w = 0 then want else []))
theorem a_treeIs (t : List Ent) (e w : Int) (want : List Ent) (ht : t.length ≤ 140737488355328) (hw : want.length ≤ 140737488355328) : AFn C.P 24 [entAV t, .v (.int .i64 e), .v (.int .i64 w), entAV want] (.v (.bool (treeIsB t e w want))) := by
  have hE : treeIsB t e w want = (decide (e = w) && decide (t = (if w = 0 then want else []))) := rfl
  have h1 := a_sameEntries t want ht hw
  have h2 := a_sameEntries t [] ht (by simp)
  generalize treeIsB t e w want = E at *
  by_cases hz : w = 0
  · rw [if_pos hz] at hE
    generalize decide (t = want) = D at *
    refine acall_intro Tryd.func24 rfl _ Tryd.ntmps24 (Nat.le_of_ble_eq_true rfl) _ Tryd.results24 0 rfl rfl ?_
    repeat' (first | refine walk ?_ | (first | (apply to_call Tryd.func29 rfl rfl; intro hIsFn; refine o_callf hIsFn (h1 ..) ?_; skip)) | ((first | (apply ops_split_t; rfl; rfl; exact nle rfl) | (apply ops_split_f; rfl; rfl; exact nle rfl) | (apply awp_cond; rfl)); all_goals (intro hc; have hp := hc; first | (simp at hp; done) | ((try simp at hp); first | (exfalso; omega) | skip))) | (apply awp_cond_any; rfl))
    all_goals try (exfalso; omega)
    all_goals (apply fin_bool; rfl; simp_all)
  · rw [if_neg hz] at hE
    generalize decide (t = []) = D at *
    refine acall_intro Tryd.func24 rfl _ Tryd.ntmps24 (Nat.le_of_ble_eq_true rfl) _ Tryd.results24 0 rfl rfl ?_
    repeat' (first | refine walk ?_ | (first | (apply to_call Tryd.func29 rfl rfl; intro hIsFn; refine o_callf hIsFn (h2 ..) ?_; skip)) | ((first | (apply ops_split_t; rfl; rfl; exact nle rfl) | (apply ops_split_f; rfl; rfl; exact nle rfl) | (apply awp_cond; rfl)); all_goals (intro hc; have hp := hc; first | (simp at hp; done) | ((try simp at hp); first | (exfalso; omega) | skip))) | (apply awp_cond_any; rfl))
    all_goals try (exfalso; omega)
    all_goals (apply fin_bool; rfl; simp_all)
end Go.Proofs.YtkkfilkmkdnboaaDoor
