/- The laws TreeChecks, TreeFinds, TreeApplies, TreeAlls, walked. -/
import Derived.Test.YtpeenheeakhlgaaDoorTu7
set_option linter.unusedSimpArgs false
set_option linter.unnecessarySimpa false
set_option linter.unusedVariables false
set_option maxHeartbeats 1000000
namespace Go.Proofs.YtpeenheeakhlgaaDoor
open Go.Ab Go.RowKit
set_option maxRecDepth 10000
attribute [local irreducible] Awp Ops OpsX Wanted Red ExOk Go.Ab.Fin ACall Rz RzL RzRows Enters ResOk RenV RenVL ArgV ArgVL

theorem law_tchecks (t : List Ent) (hb : EBig t) : AFn C.P 9 [entAV t] (.v (.bool true)) := by
  have h1 := a_tcheck t hb
  have h2 := a_checkTreeR t hb
  generalize treeErr t = E at *
  refine acall_intro Tryd.func9 rfl _ Tryd.ntmps9 (Nat.le_of_ble_eq_true rfl) _ Tryd.results9 0 rfl rfl ?_
  repeat' (first | refine walk ?_ | (first | (apply to_call Tryd.func25 rfl rfl; intro hIsFn; refine o_callf hIsFn (a_treeBegun ..) ?_; skip) | (apply to_call Tryd.func32 rfl rfl; intro hIsFn; refine o_callf hIsFn (h1 ..) ?_; skip) | (apply to_call Tryd.func22 rfl rfl; intro hIsFn; refine o_callf hIsFn (h2 ..) ?_; skip)) | ((first | (apply ops_split_t; rfl; rfl; exact nle rfl) | (apply ops_split_f; rfl; rfl; exact nle rfl) | (apply awp_cond; rfl)); all_goals (intro hc; have hp := hc; first | (simp at hp; done) | ((try simp at hp); first | (exfalso; omega) | skip))) | (apply awp_cond_any; rfl))
  all_goals try (exfalso; omega)
  all_goals (apply fin_bool; rfl; simp_all; done)
theorem law_tapplies (t : List Ent) (c : Chg) (v : Int) (hb : EBig t) (hcs : c.small) : AFn C.P 5 [entAV t, .agg c.row, .v (.int .i64 v)] (.v (.bool true)) := by
  have h1 := a_apply t c v hb hcs
  have h2 := a_checkTreeR t hb
  have h3 := a_isVerR v
  have hE : applyE t c v = if ¬ treeErr t = 0 then treeErr t else if isVer v = false then 3 else rawE t c v := rfl
  have hL : applyL t c v = if applyE t c v = 0 then doneL t c v else [] := rfl
  by_cases hte : treeErr t = 0
  · have hR := RightE.of hte
    have hch := a_changeOf t c v (treeErr_zero hte).1 hR.rise hR.paths hcs
    rw [hte] at h2
    rw [if_neg (by simp [hte])] at hE
    generalize isVer v = V at *
    cases V with
    | true =>
      have hE2 : applyE t c v = rawE t c v := by rw [hE]; simp
      have hL2 : applyL t c v = rawL t c v := by rw [hL, hE2]; rfl
      have hls : (rawL t c v).length ≤ 1000000000 := by
        have := doneL_len t c v
        have := (treeErr_zero hte).1
        unfold rawL; split
        · omega
        · simp
      have hbad := @rawL_bad t c v
      rw [hE2, hL2] at h1
      have h4 := a_treeIs (rawL t c v) (rawE t c v) (rawE t c v) (rawL t c v) hls hls
      have h5 : treeIsB (rawL t c v) (rawE t c v) (rawE t c v) (rawL t c v) = true := by
        unfold treeIsB
        by_cases hz : rawE t c v = 0
        · simp [hz]
        · simp [hz, hbad hz]
      rw [h5] at h4
      generalize rawL t c v = L at *
      generalize rawE t c v = E at *
      refine acall_intro Tryd.func5 rfl _ Tryd.ntmps5 (Nat.le_of_ble_eq_true rfl) _ Tryd.results5 0 rfl rfl ?_
      repeat' (first | refine walk ?_ | (first | (apply to_call Tryd.func25 rfl rfl; intro hIsFn; refine o_callf hIsFn (a_treeBegun ..) ?_; skip) | (apply to_call Tryd.func21 rfl rfl; intro hIsFn; refine o_callp hIsFn (h1 ..) ?_) | (apply to_call Tryd.func22 rfl rfl; intro hIsFn; refine o_callp hIsFn (h2 ..) ?_) | (apply to_call Tryd.func23 rfl rfl; intro hIsFn; refine o_callf hIsFn (h3 ..) ?_; skip) | (apply to_call Tryd.func24 rfl rfl; intro hIsFn; refine o_callp hIsFn (hch ..) ?_) | (apply to_call Tryd.func26 rfl rfl; intro hIsFn; refine o_callp hIsFn (h4 ..) ?_)) | ((first | (apply ops_split_t; rfl; rfl; exact nle rfl) | (apply ops_split_f; rfl; rfl; exact nle rfl) | (apply awp_cond; rfl)); all_goals (intro hc; have hp := hc; first | (simp at hp; done) | ((try simp at hp); first | (exfalso; omega) | skip))) | (apply awp_cond_any; rfl))
      all_goals try (exfalso; first | omega | (simp_all; done))
      all_goals (apply fin_bool; rfl; simp; done)
    | false =>
      have hE2 : applyE t c v = 3 := by rw [hE]; simp
      rw [hE2, if_neg (by decide)] at hL
      rw [hE2, hL] at h1
      have h4 : AFn C.P 26 [entAV [], .v (.int .i64 3), .v (.int .i64 3), entAV []] (.v (.bool true)) := a_treeIs [] 3 3 [] (by simp) (by simp)
      refine acall_intro Tryd.func5 rfl _ Tryd.ntmps5 (Nat.le_of_ble_eq_true rfl) _ Tryd.results5 0 rfl rfl ?_
      repeat' (first | refine walk ?_ | (first | (apply to_call Tryd.func25 rfl rfl; intro hIsFn; refine o_callf hIsFn (a_treeBegun ..) ?_; skip) | (apply to_call Tryd.func21 rfl rfl; intro hIsFn; refine o_callp hIsFn (h1 ..) ?_) | (apply to_call Tryd.func22 rfl rfl; intro hIsFn; refine o_callp hIsFn (h2 ..) ?_) | (apply to_call Tryd.func23 rfl rfl; intro hIsFn; refine o_callf hIsFn (h3 ..) ?_; skip) | (apply to_call Tryd.func26 rfl rfl; intro hIsFn; refine o_callp hIsFn (h4 ..) ?_)) | ((first | (apply ops_split_t; rfl; rfl; exact nle rfl) | (apply ops_split_f; rfl; rfl; exact nle rfl) | (apply awp_cond; rfl)); all_goals (intro hc; have hp := hc; first | (simp at hp; done) | ((try simp at hp); first | (exfalso; omega) | skip))) | (apply awp_cond_any; rfl))
      all_goals try (exfalso; first | omega | (simp_all; done))
      all_goals (apply fin_bool; rfl; simp; done)
  · rw [if_pos hte] at hE
    have hL2 : applyL t c v = [] := by rw [hL, if_neg (by rw [hE]; exact hte)]
    rw [hE, hL2] at h1
    have h4 := a_treeIs [] (treeErr t) (treeErr t) [] (by simp) (by simp)
    have h5 : treeIsB [] (treeErr t) (treeErr t) [] = true := by unfold treeIsB; simp
    rw [h5] at h4
    generalize treeErr t = E at *
    refine acall_intro Tryd.func5 rfl _ Tryd.ntmps5 (Nat.le_of_ble_eq_true rfl) _ Tryd.results5 0 rfl rfl ?_
    repeat' (first | refine walk ?_ | (first | (apply to_call Tryd.func25 rfl rfl; intro hIsFn; refine o_callf hIsFn (a_treeBegun ..) ?_; skip) | (apply to_call Tryd.func21 rfl rfl; intro hIsFn; refine o_callp hIsFn (h1 ..) ?_) | (apply to_call Tryd.func22 rfl rfl; intro hIsFn; refine o_callp hIsFn (h2 ..) ?_) | (apply to_call Tryd.func23 rfl rfl; intro hIsFn; refine o_callf hIsFn (h3 ..) ?_; skip) | (apply to_call Tryd.func26 rfl rfl; intro hIsFn; refine o_callp hIsFn (h4 ..) ?_)) | ((first | (apply ops_split_t; rfl; rfl; exact nle rfl) | (apply ops_split_f; rfl; rfl; exact nle rfl) | (apply awp_cond; rfl)); all_goals (intro hc; have hp := hc; first | (simp at hp; done) | ((try simp at hp); first | (exfalso; omega) | skip))) | (apply awp_cond_any; rfl))
    all_goals try (exfalso; first | omega | (simp_all; done))
    all_goals (apply fin_bool; rfl; simp; done)
theorem allR_bad (v : Int) : ∀ (l : List Chg) (t : List Ent) (n : Nat), ¬ (allR v t l n).2.2 = 0 → (allR v t l n).1 = []
  | [], t, n, h => absurd rfl h
  | c :: l, t, n, h => by
    unfold allR at *
    split
    · rename_i h1; rw [if_pos h1] at h; exact allR_bad v l _ _ h
    · rfl
theorem allR_len (v : Int) : ∀ (l : List Chg) (t : List Ent) (n : Nat), t.length ≤ 60 → (allR v t l n).1.length ≤ 60
  | [], t, n, h => h
  | c :: l, t, n, h => by
    unfold allR
    split
    · rename_i h1; exact allR_len v l _ _ (done_60 h1)
    · simp
theorem law_talls (t : List Ent) (l : List Chg) (v : Int) (hb : EBig t) (hcb : CBig l) : AFn C.P 6 [entAV t, chgAV l, .v (.int .i64 v)] (.v (.bool true)) := by
  have h1 := a_all t l v hb hcb
  have h2 := a_checkTreeR t hb
  rw [allT_eq] at h1
  by_cases hte : treeErr t = 0
  · have hR := RightE.of hte
    have h60 := (treeErr_zero hte).1
    have h3 := a_allOf t l v h60 hR hcb
    rw [if_neg (by simp [hte])] at h1
    rw [hte] at h2
    have hbad : ¬ (allW t l v).2.2 = 0 → (allW t l v).1 = [] := by
      unfold allW
      split
      · intro _; rfl
      · split
        · intro _; rfl
        · exact allR_bad v l t 0
    have hls : (allW t l v).1.length ≤ 60 := by
      unfold allW
      split
      · simp
      · split
        · simp
        · exact allR_len v l t 0 h60
    generalize allW t l v = A at *
    obtain ⟨L, n, E⟩ := A
    have hls : L.length ≤ 60 := hls
    have hbad : ¬ E = 0 → L = [] := hbad
    have h1 : AFn C.P 27 [entAV t, chgAV l, .v (.int .i64 v)] (.tup [entAV L, .v (.int .i64 (n : Nat)), .v (.int .i64 E)]) := h1
    have h3 : AFn C.P 28 [entAV t, chgAV l, .v (.int .i64 v)] (.tup [entAV L, .v (.int .i64 (n : Nat)), .v (.int .i64 E)]) := h3
    have h4 := a_treeIs L E E L (by omega) (by omega)
    have h5 : treeIsB L E E L = true := by
      unfold treeIsB
      by_cases hz : E = 0
      · simp [hz]
      · simp [hz, hbad hz]
    rw [h5] at h4
    refine acall_intro Tryd.func6 rfl _ Tryd.ntmps6 (Nat.le_of_ble_eq_true rfl) _ Tryd.results6 0 rfl rfl ?_
    repeat' (first | refine walk ?_ | (first | (apply to_call Tryd.func25 rfl rfl; intro hIsFn; refine o_callf hIsFn (a_treeBegun ..) ?_; skip) | (apply to_call Tryd.func27 rfl rfl; intro hIsFn; refine o_callp hIsFn (h1 ..) ?_) | (apply to_call Tryd.func22 rfl rfl; intro hIsFn; refine o_callp hIsFn (h2 ..) ?_) | (apply to_call Tryd.func28 rfl rfl; intro hIsFn; refine o_callp hIsFn (h3 ..) ?_) | (apply to_call Tryd.func26 rfl rfl; intro hIsFn; refine o_callp hIsFn (h4 ..) ?_)) | ((first | (apply ops_split_t; rfl; rfl; exact nle rfl) | (apply ops_split_f; rfl; rfl; exact nle rfl) | (apply awp_cond; rfl)); all_goals (intro hc; have hp := hc; first | (simp at hp; done) | ((try simp at hp); first | (exfalso; omega) | skip))) | (apply awp_cond_any; rfl))
    all_goals try (exfalso; first | omega | (simp_all; done))
    all_goals (apply fin_bool; rfl; simp; done)
  · rw [if_pos hte] at h1
    have h1 : AFn C.P 27 [entAV t, chgAV l, .v (.int .i64 v)] (.tup [entAV [], .v (.int .i64 ((0 : Nat) : Int)), .v (.int .i64 (treeErr t))]) := h1
    have h4 := a_treeIs [] (treeErr t) (treeErr t) [] (by simp) (by simp)
    have h5 : treeIsB [] (treeErr t) (treeErr t) [] = true := by unfold treeIsB; simp
    rw [h5] at h4
    generalize treeErr t = E at *
    refine acall_intro Tryd.func6 rfl _ Tryd.ntmps6 (Nat.le_of_ble_eq_true rfl) _ Tryd.results6 0 rfl rfl ?_
    repeat' (first | refine walk ?_ | (first | (apply to_call Tryd.func25 rfl rfl; intro hIsFn; refine o_callf hIsFn (a_treeBegun ..) ?_; skip) | (apply to_call Tryd.func27 rfl rfl; intro hIsFn; refine o_callp hIsFn (h1 ..) ?_) | (apply to_call Tryd.func22 rfl rfl; intro hIsFn; refine o_callp hIsFn (h2 ..) ?_) | (apply to_call Tryd.func26 rfl rfl; intro hIsFn; refine o_callp hIsFn (h4 ..) ?_)) | ((first | (apply ops_split_t; rfl; rfl; exact nle rfl) | (apply ops_split_f; rfl; rfl; exact nle rfl) | (apply awp_cond; rfl)); all_goals (intro hc; have hp := hc; first | (simp at hp; done) | ((try simp at hp); first | (exfalso; omega) | skip))) | (apply awp_cond_any; rfl))
    all_goals try (exfalso; first | omega | (simp_all; done))
    all_goals (apply fin_bool; rfl; simp; done)
theorem law_tfinds (t : List Ent) (p : Str) (hb : EBig t) (hpl : p.length ≤ 4000000000) : AFn C.P 10 [entAV t, .v (str p)] (.v (.bool true)) := by
  have h1 := a_find t p hb (by omega)
  have h2 := a_checkTreeR t hb
  have h3 := a_checkPath p hpl
  have h4 := a_entryAt t p hb.len
  have hE : findE t p = if ¬ treeErr t = 0 then treeErr t else if ¬ pathErr p = 0 then pathErr p else if hitE t p = true then 0 else 5 := rfl
  have hX : findX t p = if findE t p = 0 then (match t.find? (atP p) with | some x => x | none => noEnt) else noEnt := rfl
  by_cases hte : treeErr t = 0
  · have hs := (RightE.of hte).rise
    rw [hte] at h2
    rw [if_neg (by simp [hte])] at hE
    by_cases hpe : pathErr p = 0
    · rw [hpe] at h3
      rw [if_neg (by simp [hpe])] at hE
      cases hh : hitE t p with
      | true =>
        obtain ⟨hk, _, hfi, hix⟩ := hitE_at hs hh
        have hr := getRow (f := Ent.row) hk
        rw [hh, if_pos rfl] at hE
        rw [hE, hfi, if_pos rfl] at hX
        have hX : findX t p = t[posE t p] := hX
        rw [hE, hX] at h1
        rw [hix] at h4
        generalize posE t p = k at *
        refine acall_intro Tryd.func10 rfl _ Tryd.ntmps10 (Nat.le_of_ble_eq_true rfl) _ Tryd.results10 0 rfl rfl ?_
        repeat' (first | refine walk ?_ | (first | (apply to_call Tryd.func25 rfl rfl; intro hIsFn; refine o_callf hIsFn (a_treeBegun ..) ?_; skip) | (apply to_call Tryd.func33 rfl rfl; intro hIsFn; refine o_callp hIsFn (h1 ..) ?_) | (apply to_call Tryd.func22 rfl rfl; intro hIsFn; refine o_callp hIsFn (h2 ..) ?_) | (apply to_call Tryd.func34 rfl rfl; intro hIsFn; refine o_callf hIsFn (h3 ..) ?_; skip) | (apply to_call Tryd.func35 rfl rfl; intro hIsFn; refine o_callp hIsFn (h4 ..) ?_) | (apply opsx_val; apply ex_rowEq; rfl; rfl; exact eqK_ent; exact rowEq_ent _ _; (first | exact .inl ⟨rfl, rfl⟩ | exact .inr ⟨rfl, rfl⟩); exact nle rfl)) | ((first | (apply ops_split_t; rfl; rfl; exact nle rfl) | (apply ops_split_f; rfl; rfl; exact nle rfl) | (apply awp_cond; rfl)); all_goals (intro hc; have hp := hc; first | (simp at hp; done) | ((try simp at hp); first | (exfalso; omega) | skip))) | (apply awp_cond_any; rfl))
        all_goals try (exfalso; first | omega | (simp_all; done))
        all_goals (apply fin_bool; rfl; simp; done)
      | false =>
        rw [hh] at hE
        have hE : findE t p = 5 := hE
        rw [hE, if_neg (by decide)] at hX
        rw [hE, hX] at h1
        rw [(hitE_none hh).2] at h4
        refine acall_intro Tryd.func10 rfl _ Tryd.ntmps10 (Nat.le_of_ble_eq_true rfl) _ Tryd.results10 0 rfl rfl ?_
        repeat' (first | refine walk ?_ | (first | (apply to_call Tryd.func25 rfl rfl; intro hIsFn; refine o_callf hIsFn (a_treeBegun ..) ?_; skip) | (apply to_call Tryd.func33 rfl rfl; intro hIsFn; refine o_callp hIsFn (h1 ..) ?_) | (apply to_call Tryd.func22 rfl rfl; intro hIsFn; refine o_callp hIsFn (h2 ..) ?_) | (apply to_call Tryd.func34 rfl rfl; intro hIsFn; refine o_callf hIsFn (h3 ..) ?_; skip) | (apply to_call Tryd.func35 rfl rfl; intro hIsFn; refine o_callp hIsFn (h4 ..) ?_) | (apply opsx_val; apply ex_rowEq; rfl; rfl; exact eqK_ent; exact rowEq_ent noEnt noEnt; (first | exact .inl ⟨rfl, rfl⟩ | exact .inr ⟨rfl, rfl⟩); exact nle rfl)) | ((first | (apply ops_split_t; rfl; rfl; exact nle rfl) | (apply ops_split_f; rfl; rfl; exact nle rfl) | (apply awp_cond; rfl)); all_goals (intro hc; have hp := hc; first | (simp at hp; done) | ((try simp at hp); first | (exfalso; omega) | skip))) | (apply awp_cond_any; rfl))
        all_goals try (exfalso; first | omega | (simp_all; done))
        all_goals (apply fin_bool; rfl; simp; done)
    · rw [if_pos hpe] at hE
      rw [hE, if_neg hpe] at hX
      rw [hE, hX] at h1
      generalize pathErr p = E at *
      refine acall_intro Tryd.func10 rfl _ Tryd.ntmps10 (Nat.le_of_ble_eq_true rfl) _ Tryd.results10 0 rfl rfl ?_
      repeat' (first | refine walk ?_ | (first | (apply to_call Tryd.func25 rfl rfl; intro hIsFn; refine o_callf hIsFn (a_treeBegun ..) ?_; skip) | (apply to_call Tryd.func33 rfl rfl; intro hIsFn; refine o_callp hIsFn (h1 ..) ?_) | (apply to_call Tryd.func22 rfl rfl; intro hIsFn; refine o_callp hIsFn (h2 ..) ?_) | (apply to_call Tryd.func34 rfl rfl; intro hIsFn; refine o_callf hIsFn (h3 ..) ?_; skip) | (apply opsx_val; apply ex_rowEq; rfl; rfl; exact eqK_ent; exact rowEq_ent noEnt noEnt; (first | exact .inl ⟨rfl, rfl⟩ | exact .inr ⟨rfl, rfl⟩); exact nle rfl)) | ((first | (apply ops_split_t; rfl; rfl; exact nle rfl) | (apply ops_split_f; rfl; rfl; exact nle rfl) | (apply awp_cond; rfl)); all_goals (intro hc; have hp := hc; first | (simp at hp; done) | ((try simp at hp); first | (exfalso; omega) | skip))) | (apply awp_cond_any; rfl))
      all_goals try (exfalso; first | omega | (simp_all; done))
      all_goals (apply fin_bool; rfl; simp; done)
  · rw [if_pos hte] at hE
    rw [hE, if_neg hte] at hX
    rw [hE, hX] at h1
    generalize treeErr t = E at *
    refine acall_intro Tryd.func10 rfl _ Tryd.ntmps10 (Nat.le_of_ble_eq_true rfl) _ Tryd.results10 0 rfl rfl ?_
    repeat' (first | refine walk ?_ | (first | (apply to_call Tryd.func25 rfl rfl; intro hIsFn; refine o_callf hIsFn (a_treeBegun ..) ?_; skip) | (apply to_call Tryd.func33 rfl rfl; intro hIsFn; refine o_callp hIsFn (h1 ..) ?_) | (apply to_call Tryd.func22 rfl rfl; intro hIsFn; refine o_callp hIsFn (h2 ..) ?_) | (apply to_call Tryd.func34 rfl rfl; intro hIsFn; refine o_callf hIsFn (h3 ..) ?_; skip) | (apply opsx_val; apply ex_rowEq; rfl; rfl; exact eqK_ent; exact rowEq_ent noEnt noEnt; (first | exact .inl ⟨rfl, rfl⟩ | exact .inr ⟨rfl, rfl⟩); exact nle rfl)) | ((first | (apply ops_split_t; rfl; rfl; exact nle rfl) | (apply ops_split_f; rfl; rfl; exact nle rfl) | (apply awp_cond; rfl)); all_goals (intro hc; have hp := hc; first | (simp at hp; done) | ((try simp at hp); first | (exfalso; omega) | skip))) | (apply awp_cond_any; rfl))
    all_goals try (exfalso; first | omega | (simp_all; done))
    all_goals (apply fin_bool; rfl; simp; done)
theorem law_tchecks_all (ys : List AV) (h : TyAllW C.tab 1000000000 [22] ys) : AFn C.P 9 ys (.v (.bool true)) := by
  obtain ⟨_, _, rfl, h0, rfl⟩ := h
  obtain ⟨a, rfl, ha⟩ := tyv_ents h0
  exact law_tchecks a ha
theorem law_tfinds_all (ys : List AV) (h : TyAllW C.tab 1000000000 [22, 9] ys) : AFn C.P 10 ys (.v (.bool true)) := by
  obtain ⟨_, _, rfl, h0, _, _, rfl, h1, rfl⟩ := h
  obtain ⟨a, rfl, ha⟩ := tyv_ents h0
  obtain ⟨b, rfl, hb⟩ := tyv_str h1
  exact law_tfinds a b ha (by omega)
theorem law_tapplies_all (ys : List AV) (h : TyAllW C.tab 1000000000 [22, 35, 3] ys) : AFn C.P 5 ys (.v (.bool true)) := by
  obtain ⟨_, _, rfl, h0, _, _, rfl, h1, _, _, rfl, h2, rfl⟩ := h
  obtain ⟨a, rfl, ha⟩ := tyv_ents h0
  obtain ⟨b, rfl, hb⟩ := tyv_chg h1
  obtain ⟨v, rfl, _⟩ := tyv_int h2
  exact law_tapplies a b v ha hb
theorem law_talls_all (ys : List AV) (h : TyAllW C.tab 1000000000 [22, 23, 3] ys) : AFn C.P 6 ys (.v (.bool true)) := by
  obtain ⟨_, _, rfl, h0, _, _, rfl, h1, _, _, rfl, h2, rfl⟩ := h
  obtain ⟨a, rfl, ha⟩ := tyv_ents h0
  obtain ⟨b, rfl, hb⟩ := tyv_chgs h1
  obtain ⟨v, rfl, _⟩ := tyv_int h2
  exact law_talls a b v ha hb
end Go.Proofs.YtpeenheeakhlgaaDoor
