/- Deltas: SameChanges, Patch; the laws DeltaDiffs and DeltaPatches, walked. -/
import Derived.Test.YtpeenheeakhlgaaDoorTw2
import Derived.Test.YtpeenheeakhlgaaDoorTv1
set_option linter.unusedSimpArgs false
set_option linter.unnecessarySimpa false
set_option linter.unusedVariables false
set_option maxHeartbeats 1000000
namespace Go.Proofs.YtpeenheeakhlgaaDoor
open Go.Ab Go.RowKit
set_option maxRecDepth 10000
attribute [local irreducible] Awp Ops OpsX Wanted Red ExOk Go.Ab.Fin ACall Rz RzL RzRows Enters ResOk RenV RenVL ArgV ArgVL

theorem eqK_chg : eqKs C.P 35 = some [0, 1, 1, 1, 0] := by kernel_rfl
theorem rowEq_chg (a b : Chg) : rowEq [0, 1, 1, 1, 0] a.row b.row = some (decide (a = b)) := by
  obtain ⟨a1, a2, a3, a4, a5⟩ := a
  obtain ⟨b1, b2, b3, b4, b5⟩ := b
  simp only [Chg.row, rowEq, cellEq, str, Chg.mk.injEq, if_true, Option.some.injEq]
  by_cases h1 : a1 = b1 <;> by_cases h2 : a2 = b2 <;> by_cases h3 : a3 = b3 <;> by_cases h4 : a4 = b4 <;> by_cases h5 : a5 = b5 <;> simp [h1, h2, h3, h4, h5]
theorem a_sameChanges (a b : List Chg) (ha : a.length ≤ 1000000000) (hb : b.length ≤ 1000000000) : AFn C.P 18 [chgAV a, chgAV b] (.v (.bool (decide (a = b)))) := by
  have hma : (a.map Chg.row).length = a.length := List.length_map ..
  have hmb : (b.map Chg.row).length = b.length := List.length_map ..
  refine acall_intro Tryd.func18 rfl _ Tryd.ntmps18 (Nat.le_of_ble_eq_true rfl) _ Tryd.results18 0 rfl rfl ?_
  repeat' (first | refine walk ?_ | fail | ((first | (apply awp_cond; rfl)); all_goals (intro hc; have hp := hc; first | (simp at hp; done) | ((try simp at hp); first | (exfalso; omega) | skip))) | (apply awp_cond_any; rfl))
  · apply fin_bool
    rfl
    have hne : ¬ a = b := fun e => by subst e; simp at *
    simp [hne]
  have hab : a.length = b.length := by simp at *; omega
  (refine Awp.red (red_pure (ts := [(0, chgAV a), (1, chgAV b), (5, .v (.int .i64 ((0 : Nat) : Int)))]) ?_) ?_; ((repeat (first | exact tsok_nil | refine p_pure ?_ | refine p_eq ?_ ?_))))
  refine awp_loop (fun n σ => ∃ i : Nat, i ≤ a.length ∧ n = a.length - i ∧ (a.take i = b.take i) ∧ σ = ⟨[(0, chgAV a), (1, chgAV b), (5, .v (.int .i64 (i : Int)))], [], C.nh⟩) a.length ⟨0, Nat.zero_le _, rfl, rfl, rfl⟩ ?_
  rintro n σ ⟨i, hi, rfl, hsofar, rfl⟩
  by_cases hlt : i < a.length
  · have hlt2 : i < b.length := by omega
    have hr := getRow (f := Chg.row) hlt
    have hr' := getRow (f := Chg.row) hlt2
    have hnx := take_same hlt hlt2 hsofar
    repeat' (first | refine walk ?_ | (first | (apply opsx_val; apply ex_rowEq; rfl; rfl; exact eqK_chg; exact rowEq_chg _ _; (first | exact .inl ⟨rfl, rfl⟩ | exact .inr ⟨rfl, rfl⟩); exact nle rfl)) | ((first | (apply awp_cond; rfl)); all_goals (intro hc; have hp := hc; first | (simp at hp; done) | ((try simp at hp); first | (exfalso; omega) | skip))) | (apply awp_cond_any; rfl))
    all_goals try (exfalso; omega)
    · apply fin_bool
      rfl
      have hne : ¬ a = b := fun e => by subst e; simp at *
      simp [hne]
    · refine ⟨a.length - (i + 1), _, by omega, red_pure (ts := [(0, chgAV a), (1, chgAV b), (5, .v (.int .i64 ((i + 1 : Nat) : Int)))]) ?_, i + 1, by omega, rfl, (hnx (by simp_all)), rfl⟩; ((repeat (first | exact tsok_nil | refine p_pure ?_ | refine p_eq ?_ ?_)))
  obtain rfl : i = a.length := by omega
  have he : a = b := by rw [List.take_length] at hsofar; rw [hsofar, hab, List.take_length]
  repeat' (first | refine walk ?_ | fail | ((first | (apply awp_cond; rfl)); all_goals (intro hc; have hp := hc; first | (simp at hp; done) | ((try simp at hp); first | (exfalso; omega) | skip))) | (apply awp_cond_any; rfl))
  all_goals try (exfalso; omega)
  apply fin_bool
  rfl
  simp [he]
theorem raw_len {a b : List Ent} (ha : Right a) (hb : Right b) : (rawD a b).length ≤ 120 := by
  have h1 := gones_len a b
  have h2 : (b.filter fun x => !stays a x).length ≤ b.length := List.length_filter_le ..
  have := ha.len
  have := hb.len
  simp only [rawD, List.length_append, List.length_map]; omega
theorem law_ddiffs (a b : List Ent) (ha : EBig a) (hb : EBig b) : AFn C.P 3 [entAV a, entAV b] (.v (.bool true)) := by
  have h1 := a_diff a b ha hb
  have h2 : AFn C.P 15 [entAV a, entAV b] (.v (.int .i64 (twoErr a b))) := a_twoTrees a b ha hb
  by_cases hz : twoErr a b = 0
  · obtain ⟨ta, tb⟩ := twoErr_zero.1 hz
    have h3 := a_diffOf a b (right_iff.1 ta) (right_iff.1 tb)
    have hl := raw_len (right_iff.1 ta) (right_iff.1 tb)
    have h4 := a_sameChanges (rawD a b) (rawD a b) (by omega) (by omega)
    rw [show decide (rawD a b = rawD a b) = true from by simp] at h4
    rw [hz, show diffL a b = rawD a b from if_pos hz] at h1
    rw [hz] at h2
    generalize rawD a b = L at *
    refine acall_intro Tryd.func3 rfl _ Tryd.ntmps3 (Nat.le_of_ble_eq_true rfl) _ Tryd.results3 0 rfl rfl ?_
    repeat' (first | refine walk ?_ | (first | (apply to_call Tryd.func17 rfl rfl; intro hIsFn; refine o_callf hIsFn (a_dbegun ..) ?_; skip) | (apply to_call Tryd.func14 rfl rfl; intro hIsFn; refine o_callp hIsFn (h1 ..) ?_) | (apply to_call Tryd.func15 rfl rfl; intro hIsFn; refine o_callf hIsFn (h2 ..) ?_; skip) | (apply to_call Tryd.func16 rfl rfl; intro hIsFn; refine o_callp hIsFn (h3 ..) ?_) | (apply to_call Tryd.func18 rfl rfl; intro hIsFn; refine o_callp hIsFn (h4 ..) ?_)) | ((first | (apply ops_split_t; rfl; rfl; exact nle rfl) | (apply ops_split_f; rfl; rfl; exact nle rfl) | (apply awp_cond; rfl)); all_goals (intro hc; have hp := hc; first | (simp at hp; done) | ((try simp at hp); first | (exfalso; omega) | skip))) | (apply awp_cond_any; rfl))
    all_goals try (exfalso; first | omega | (simp_all; done))
    all_goals (apply fin_bool; rfl; simp; done)
  · have h4 : AFn C.P 18 [chgAV [], chgAV []] (.v (.bool true)) := a_sameChanges [] [] (by simp) (by simp)
    rw [show diffL a b = [] from if_neg hz] at h1
    generalize twoErr a b = E at *
    refine acall_intro Tryd.func3 rfl _ Tryd.ntmps3 (Nat.le_of_ble_eq_true rfl) _ Tryd.results3 0 rfl rfl ?_
    repeat' (first | refine walk ?_ | (first | (apply to_call Tryd.func17 rfl rfl; intro hIsFn; refine o_callf hIsFn (a_dbegun ..) ?_; skip) | (apply to_call Tryd.func14 rfl rfl; intro hIsFn; refine o_callp hIsFn (h1 ..) ?_) | (apply to_call Tryd.func15 rfl rfl; intro hIsFn; refine o_callf hIsFn (h2 ..) ?_; skip) | (apply to_call Tryd.func18 rfl rfl; intro hIsFn; refine o_callp hIsFn (h4 ..) ?_)) | ((first | (apply ops_split_t; rfl; rfl; exact nle rfl) | (apply ops_split_f; rfl; rfl; exact nle rfl) | (apply awp_cond; rfl)); all_goals (intro hc; have hp := hc; first | (simp at hp; done) | ((try simp at hp); first | (exfalso; omega) | skip))) | (apply awp_cond_any; rfl))
    all_goals try (exfalso; first | omega | (simp_all; done))
    all_goals (apply fin_bool; rfl; simp; done)
/-- Changes, one after the other, each checked. -/
def patchR (v : Int) : List Ent → List Chg → List Ent × Int
  | t, [] => (t, 0)
  | t, c :: l => if applyE t c v = 0 then patchR v (doneL t c v) l else ([], applyE t c v)
def patchT (v : Int) (t : List Ent) (l : List Chg) : List Ent × Int := if ¬ treeErr t = 0 then ([], treeErr t) else if 120 < l.length then ([], 2) else patchR v t l
theorem patch_drop {v : Int} {t : List Ent} {l : List Chg} {i : Nat} (h : i < l.length) : patchR v t (l.drop i) = if applyE t l[i] v = 0 then patchR v (doneL t l[i] v) (l.drop (i + 1)) else ([], applyE t l[i] v) := by
  rw [List.drop_eq_getElem_cons h]; rfl
def resP (r : List Ent × Int) : AV := .tup [entAV r.1, .v (.int .i64 r.2)]
theorem a_patch (t : List Ent) (l : List Chg) (v : Int) (hb : EBig t) (hcb : CBig l) : AFn C.P 36 [entAV t, chgAV l, .v (.int .i64 v)] (resP (patchT v t l)) := by
  have h1 := a_tcheck t hb
  have hll := hcb.len
  have hml : (l.map Chg.row).length = l.length := List.length_map ..
  have hE : patchT v t l = if ¬ treeErr t = 0 then ([], treeErr t) else if 120 < l.length then ([], 2) else patchR v t l := rfl
  by_cases hte : treeErr t = 0
  · rw [if_neg (by simp [hte])] at hE
    have hR := right_iff.1 hte
    rw [hte] at h1
    have h60 := hR.len
    have h3 := a_cloneE t (by omega)
    by_cases h20 : 120 < l.length
    · rw [if_pos h20] at hE
      rw [hE]
      refine acall_intro Tryd.func36 rfl _ Tryd.ntmps36 (Nat.le_of_ble_eq_true rfl) _ Tryd.results36 0 rfl rfl ?_
      repeat' (first | refine walk ?_ | (first | (apply to_call Tryd.func32 rfl rfl; intro hIsFn; refine o_callp hIsFn (h1 ..) ?_)) | ((first | (apply awp_cond; rfl)); all_goals (intro hc; have hp := hc; first | (simp at hp; done) | ((try simp at hp); first | (exfalso; omega) | skip))) | (apply awp_cond_any; rfl))
      all_goals try (exfalso; first | omega | (simp_all; done))
      all_goals ((refine f_pure (rs := [.tmp 6, .tmp 7]) ?_; (repeat' (first | exact rzl_nil | apply rzl_cons | exact rz_pure rfl | exact rz_ex | exact z_os | apply rz_agg | apply rz_tup | apply rz_clo | apply rz_int | apply rz_bool | apply rz_str | refine z_eq ?_ | apply rz_sl)); all_goals trace_state))
    · rw [if_neg h20] at hE
      generalize hA : patchT v t l = A at *
      clear hA
      refine acall_intro Tryd.func36 rfl _ Tryd.ntmps36 (Nat.le_of_ble_eq_true rfl) _ Tryd.results36 0 rfl rfl ?_
      repeat' (first | refine walk ?_ | (first | (apply to_call Tryd.func32 rfl rfl; intro hIsFn; refine o_callp hIsFn (h1 ..) ?_) | (apply to_call Tryd.func51 rfl rfl; intro hIsFn; refine o_callo ([]) hIsFn (h3 ..) ?_)) | ((first | (apply awp_cond; rfl)); all_goals (intro hc; have hp := hc; first | (simp at hp; done) | ((try simp at hp); first | (exfalso; omega) | skip))) | (apply awp_cond_any; rfl))
      all_goals try (exfalso; first | omega | (simp_all; done))
      refine Awp.red (red_freeze 0 rfl (by intro row hrow; obtain ⟨x, _, rfl⟩ := List.mem_map.1 hrow; rfl)) ?_
      refine Awp.red (red_fs 0 0 rfl rfl (by simp)) ?_
      (refine Awp.red (red_pure (ts := [(0, entAV t), (2, .v (.int .i64 v)), (23, chgAV l), (24, .v (.int .i64 l.length)), (25, .v (.int .i64 ((0 : Nat) : Int)))]) ?_) ?_; ((repeat (first | exact tsok_nil | refine p_pure ?_ | refine p_eq ?_ ?_))))
      all_goals try (rw [List.length_map]; done)
      all_goals try (rw [List.drop_zero, List.take_of_length_le (by simp)]; rfl)
      refine awp_loop (fun n σ => ∃ (i : Nat) (u : List Ent), i ≤ l.length ∧ n = l.length - i ∧ (A = patchR v u (l.drop i) ∧ Right u) ∧ σ = ⟨[(0, entAV u), (2, .v (.int .i64 v)), (23, chgAV l), (24, .v (.int .i64 l.length)), (25, .v (.int .i64 (i : Int)))], [], C.nh⟩) l.length ⟨0, t, Nat.zero_le _, rfl, ⟨by rw [hE]; rfl, hR⟩, rfl⟩ ?_
      rintro n σ ⟨i, u, hi, rfl, ⟨hA, hRu⟩, rfl⟩
      by_cases hlt : i < l.length
      · have hr := getRow (f := Chg.row) hlt
        have hraw := a_apply u l[i] v hRu.big (hcb.each _ (List.getElem_mem _))
        rw [patch_drop hlt] at hA
        by_cases hz : applyE u l[i] v = 0
        · obtain ⟨_, _, _, hL, hRn⟩ := apply_zero hz
          rw [if_pos hz] at hA
          rw [hL, hz] at hraw
          generalize doneL u l[i] v = U at *
          clear hE hL hz
          repeat' (first | refine walk ?_ | (first | (apply to_call Tryd.func21 rfl rfl; intro hIsFn; refine o_callp hIsFn (hraw ..) ?_)) | ((first | (apply awp_cond; rfl)); all_goals (intro hc; have hp := hc; first | (simp at hp; done) | ((try simp at hp); first | (exfalso; omega) | skip))) | (apply awp_cond_any; rfl))
          all_goals try (exfalso; omega)
          refine ⟨l.length - (i + 1), _, by omega, red_pure (ts := [(0, entAV U), (2, .v (.int .i64 v)), (23, chgAV l), (24, .v (.int .i64 l.length)), (25, .v (.int .i64 ((i + 1 : Nat) : Int)))]) ?_, i + 1, U, by omega, rfl, ⟨hA, hRn⟩, rfl⟩
          (repeat (first | exact tsok_nil | refine p_pure ?_ | refine p_eq ?_ ?_))
        · rw [if_neg hz] at hA
          have hL : applyL u l[i] v = [] := by unfold applyL; rw [if_neg hz]
          rw [hL] at hraw
          rw [hA]
          generalize applyE u l[i] v = E at *
          clear hE hL hA
          repeat' (first | refine walk ?_ | (first | (apply to_call Tryd.func21 rfl rfl; intro hIsFn; refine o_callp hIsFn (hraw ..) ?_)) | ((first | (apply awp_cond; rfl)); all_goals (intro hc; have hp := hc; first | (simp at hp; done) | ((try simp at hp); first | (exfalso; omega) | skip))) | (apply awp_cond_any; rfl))
          all_goals try (exfalso; omega)
          (refine f_pure (rs := [.tmp 6, .tmp 7]) ?_; (repeat' (first | exact rzl_nil | apply rzl_cons | exact rz_pure rfl | exact rz_ex | exact z_os | apply rz_agg | apply rz_tup | apply rz_clo | apply rz_int | apply rz_bool | apply rz_str | refine z_eq ?_ | apply rz_sl)); all_goals trace_state)
      obtain rfl : i = l.length := by omega
      rw [List.drop_length] at hA
      have hA : A = (u, 0) := hA
      rw [hA]
      clear hE hA
      repeat' (first | refine walk ?_ | fail | ((first | (apply awp_cond; rfl)); all_goals (intro hc; have hp := hc; first | (simp at hp; done) | ((try simp at hp); first | (exfalso; omega) | skip))) | (apply awp_cond_any; rfl))
      all_goals try (exfalso; omega)
      (refine f_pure (rs := [.tmp 6, .tmp 7]) ?_; (repeat' (first | exact rzl_nil | apply rzl_cons | exact rz_pure rfl | exact rz_ex | exact z_os | apply rz_agg | apply rz_tup | apply rz_clo | apply rz_int | apply rz_bool | apply rz_str | refine z_eq ?_ | apply rz_sl)); all_goals trace_state)
  · rw [if_pos hte] at hE
    rw [hE]
    generalize treeErr t = E at *
    refine acall_intro Tryd.func36 rfl _ Tryd.ntmps36 (Nat.le_of_ble_eq_true rfl) _ Tryd.results36 0 rfl rfl ?_
    repeat' (first | refine walk ?_ | (first | (apply to_call Tryd.func32 rfl rfl; intro hIsFn; refine o_callp hIsFn (h1 ..) ?_)) | ((first | (apply awp_cond; rfl)); all_goals (intro hc; have hp := hc; first | (simp at hp; done) | ((try simp at hp); first | (exfalso; omega) | skip))) | (apply awp_cond_any; rfl))
    all_goals try (exfalso; omega)
    all_goals ((refine f_pure (rs := [.tmp 6, .tmp 7]) ?_; (repeat' (first | exact rzl_nil | apply rzl_cons | exact rz_pure rfl | exact rz_ex | exact z_os | apply rz_agg | apply rz_tup | apply rz_clo | apply rz_int | apply rz_bool | apply rz_str | refine z_eq ?_ | apply rz_sl)); all_goals trace_state))
theorem law_dpatches (t : List Ent) (l : List Chg) (v : Int) (hb : EBig t) (hcb : CBig l) : AFn C.P 12 [entAV t, chgAV l, .v (.int .i64 v)] (.v (.bool true)) := by
  have h1 := a_patch t l v hb hcb
  have h2 := a_checkTreeR t hb
  have h6 := a_isVerR v
  have hll := hcb.len
  have hml : (l.map Chg.row).length = l.length := List.length_map ..
  have hE : patchT v t l = if ¬ treeErr t = 0 then ([], treeErr t) else if 120 < l.length then ([], 2) else patchR v t l := rfl
  by_cases hte : treeErr t = 0
  · rw [if_neg (by simp [hte])] at hE
    have hR := right_iff.1 hte
    rw [hte] at h2
    generalize hA : patchT v t l = A at *
    clear hA
    obtain ⟨PL, PE⟩ := A
    have h1 : AFn C.P 36 [entAV t, chgAV l, .v (.int .i64 v)] (.tup [entAV PL, .v (.int .i64 PE)]) := h1
    by_cases h20 : 120 < l.length
    · rw [if_pos h20] at hE
      obtain ⟨rfl, rfl⟩ := Prod.mk.inj hE
      have h4 : AFn C.P 26 [entAV [], .v (.int .i64 2), .v (.int .i64 2), entAV t] (.v (.bool true)) := a_treeIs [] 2 2 t (by simp) hb.len
      refine acall_intro Tryd.func12 rfl _ Tryd.ntmps12 (Nat.le_of_ble_eq_true rfl) _ Tryd.results12 0 rfl rfl ?_
      repeat' (first | refine walk ?_ | (first | (apply to_call Tryd.func17 rfl rfl; intro hIsFn; refine o_callf hIsFn (a_dbegun ..) ?_; skip) | (apply to_call Tryd.func36 rfl rfl; intro hIsFn; refine o_callp hIsFn (h1 ..) ?_) | (apply to_call Tryd.func22 rfl rfl; intro hIsFn; refine o_callp hIsFn (h2 ..) ?_) | (apply to_call Tryd.func26 rfl rfl; intro hIsFn; refine o_callp hIsFn (h4 ..) ?_)) | ((first | (apply ops_split_t; rfl; rfl; exact nle rfl) | (apply ops_split_f; rfl; rfl; exact nle rfl) | (apply awp_cond; rfl)); all_goals (intro hc; have hp := hc; first | (simp at hp; done) | ((try simp at hp); first | (exfalso; omega) | skip))) | (apply awp_cond_any; rfl))
      all_goals try (exfalso; first | omega | (simp_all; done))
      (refine Awp.red (red_pure (ts := [(0, entAV t), (1, chgAV l), (2, .v (.int .i64 v)), (7, entAV []), (8, .v (.int .i64 2)), (9, .v (.int .i64 2)), (10, entAV t), (11, .v (.int .i64 ((0 : Nat) : Int)))]) ?_) ?_; ((repeat (first | exact tsok_nil | refine p_pure ?_ | refine p_eq ?_ ?_))))
      refine awp_loop (fun n σ => σ = ⟨[(0, entAV t), (1, chgAV l), (2, .v (.int .i64 v)), (7, entAV []), (8, .v (.int .i64 2)), (9, .v (.int .i64 2)), (10, entAV t), (11, .v (.int .i64 ((0 : Nat) : Int)))], [], C.nh⟩) 0 rfl ?_
      rintro n σ rfl
      repeat' (first | refine walk ?_ | (first | (apply to_call Tryd.func17 rfl rfl; intro hIsFn; refine o_callf hIsFn (a_dbegun ..) ?_; skip) | (apply to_call Tryd.func26 rfl rfl; intro hIsFn; refine o_callp hIsFn (h4 ..) ?_)) | ((first | (apply ops_split_t; rfl; rfl; exact nle rfl) | (apply ops_split_f; rfl; rfl; exact nle rfl) | (apply awp_cond; rfl)); all_goals (intro hc; have hp := hc; first | (simp at hp; done) | ((try simp at hp); first | (exfalso; omega) | skip))) | (apply awp_cond_any; rfl))
      all_goals try (exfalso; first | omega | (simp_all; done))
      all_goals (apply fin_bool; rfl; simp; done)
    · rw [if_neg h20] at hE
      refine acall_intro Tryd.func12 rfl _ Tryd.ntmps12 (Nat.le_of_ble_eq_true rfl) _ Tryd.results12 0 rfl rfl ?_
      repeat' (first | refine walk ?_ | (first | (apply to_call Tryd.func17 rfl rfl; intro hIsFn; refine o_callf hIsFn (a_dbegun ..) ?_; skip) | (apply to_call Tryd.func36 rfl rfl; intro hIsFn; refine o_callp hIsFn (h1 ..) ?_) | (apply to_call Tryd.func22 rfl rfl; intro hIsFn; refine o_callp hIsFn (h2 ..) ?_)) | ((first | (apply ops_split_t; rfl; rfl; exact nle rfl) | (apply ops_split_f; rfl; rfl; exact nle rfl) | (apply awp_cond; rfl)); all_goals (intro hc; have hp := hc; first | (simp at hp; done) | ((try simp at hp); first | (exfalso; omega) | skip))) | (apply awp_cond_any; rfl))
      all_goals try (exfalso; first | omega | (simp_all; done))
      (refine Awp.red (red_pure (ts := [(0, entAV t), (1, chgAV l), (2, .v (.int .i64 v)), (7, entAV PL), (8, .v (.int .i64 PE)), (9, .v (.int .i64 0)), (10, entAV t), (11, .v (.int .i64 ((0 : Nat) : Int)))]) ?_) ?_; ((repeat (first | exact tsok_nil | refine p_pure ?_ | refine p_eq ?_ ?_))))
      refine awp_loop (fun n σ => ∃ (i : Nat) (u : List Ent) (w : Int), i ≤ l.length ∧ n = l.length - i ∧ (u.length ≤ 60 ∧ ((w = 0 ∧ (PL, PE) = patchR v u (l.drop i) ∧ Right u) ∨ (¬ w = 0 ∧ PL = [] ∧ PE = w))) ∧ σ = ⟨[(0, entAV t), (1, chgAV l), (2, .v (.int .i64 v)), (7, entAV PL), (8, .v (.int .i64 PE)), (9, .v (.int .i64 w)), (10, entAV u), (11, .v (.int .i64 (i : Int)))], [], C.nh⟩) l.length ⟨0, t, 0, Nat.zero_le _, rfl, ⟨hR.len, .inl ⟨rfl, hE, hR⟩⟩, rfl⟩ ?_
      rintro n σ ⟨i, u, w, hi, rfl, ⟨hu60, hcase⟩, rfl⟩
      rcases hcase with ⟨rfl, hA, hRu⟩ | ⟨hw, rfl, rfl⟩
      · by_cases hlt : i < l.length
        · have hr := getRow (f := Chg.row) hlt
          have hco := a_changeOf u l[i] v hu60 hRu.rise (fun x hx => (entErr_zero (hRu.ent x hx)).1) (hcb.each _ (List.getElem_mem _))
          rw [patch_drop hlt] at hA
          have hae : applyE u l[i] v = if isVer v = false then 3 else rawE u l[i] v := by
            unfold applyE
            rw [if_neg (by rw [right_iff.2 hRu]; simp)]
          have haz := @apply_zero u l[i] v
          have hrl : rawL u l[i] v = if rawE u l[i] v = 0 then doneL u l[i] v else [] := rfl
          have hrb := @rawL_bad u l[i] v
          generalize isVer v = V at *
          cases V with
          | false =>
            have hae : applyE u l[i] v = 3 := by rw [hae]; simp
            rw [hae, if_neg (by decide)] at hA
            obtain ⟨rfl, rfl⟩ := Prod.mk.inj hA
            clear hco hrl hrb haz
            repeat' (first | refine walk ?_ | (first | (apply to_call Tryd.func23 rfl rfl; intro hIsFn; refine o_callf hIsFn (h6 ..) ?_; skip)) | ((first | (apply ops_split_t; rfl; rfl; exact nle rfl) | (apply ops_split_f; rfl; rfl; exact nle rfl) | (apply awp_cond; rfl)); all_goals (intro hc; have hp := hc; first | (simp at hp; done) | ((try simp at hp); first | (exfalso; omega) | skip))) | (apply awp_cond_any; rfl))
            all_goals try (exfalso; first | omega | (simp_all; done))
            refine ⟨l.length - (i + 1), _, by omega, red_pure (ts := [(0, entAV t), (1, chgAV l), (2, .v (.int .i64 v)), (7, entAV []), (8, .v (.int .i64 3)), (9, .v (.int .i64 3)), (10, entAV u), (11, .v (.int .i64 ((i + 1 : Nat) : Int)))]) ?_, i + 1, u, 3, by omega, rfl, ⟨hu60, .inr ⟨by decide, rfl, rfl⟩⟩, rfl⟩
            (repeat (first | exact tsok_nil | refine p_pure ?_ | refine p_eq ?_ ?_))
          | true =>
            have hae : applyE u l[i] v = rawE u l[i] v := by rw [hae]; simp
            by_cases hz : rawE u l[i] v = 0
            · obtain ⟨_, _, _, _, hRn⟩ := haz (by rw [hae]; exact hz)
              rw [hae, if_pos hz] at hA
              rw [if_pos hz] at hrl
              rw [hrl, hz] at hco
              generalize doneL u l[i] v = U at *
              clear hrl hrb haz hae hz
              repeat' (first | refine walk ?_ | (first | (apply to_call Tryd.func23 rfl rfl; intro hIsFn; refine o_callf hIsFn (h6 ..) ?_; skip) | (apply to_call Tryd.func24 rfl rfl; intro hIsFn; refine o_callp hIsFn (hco ..) ?_)) | ((first | (apply ops_split_t; rfl; rfl; exact nle rfl) | (apply ops_split_f; rfl; rfl; exact nle rfl) | (apply awp_cond; rfl)); all_goals (intro hc; have hp := hc; first | (simp at hp; done) | ((try simp at hp); first | (exfalso; omega) | skip))) | (apply awp_cond_any; rfl))
              all_goals try (exfalso; first | omega | (simp_all; done))
              refine ⟨l.length - (i + 1), _, by omega, red_pure (ts := [(0, entAV t), (1, chgAV l), (2, .v (.int .i64 v)), (7, entAV PL), (8, .v (.int .i64 PE)), (9, .v (.int .i64 0)), (10, entAV U), (11, .v (.int .i64 ((i + 1 : Nat) : Int)))]) ?_, i + 1, U, 0, by omega, rfl, ⟨hRn.len, .inl ⟨rfl, hA, hRn⟩⟩, rfl⟩
              (repeat (first | exact tsok_nil | refine p_pure ?_ | refine p_eq ?_ ?_))
            · rw [hae, if_neg hz] at hA
              obtain ⟨rfl, rfl⟩ := Prod.mk.inj hA
              rw [hrb hz] at hco
              generalize hEE : rawE u l[i] v = E at *
              clear hrl hrb haz hae hA hEE
              repeat' (first | refine walk ?_ | (first | (apply to_call Tryd.func23 rfl rfl; intro hIsFn; refine o_callf hIsFn (h6 ..) ?_; skip) | (apply to_call Tryd.func24 rfl rfl; intro hIsFn; refine o_callp hIsFn (hco ..) ?_)) | ((first | (apply ops_split_t; rfl; rfl; exact nle rfl) | (apply ops_split_f; rfl; rfl; exact nle rfl) | (apply awp_cond; rfl)); all_goals (intro hc; have hp := hc; first | (simp at hp; done) | ((try simp at hp); first | (exfalso; omega) | skip))) | (apply awp_cond_any; rfl))
              all_goals try (exfalso; first | omega | (simp_all; done))
              refine ⟨l.length - (i + 1), _, by omega, red_pure (ts := [(0, entAV t), (1, chgAV l), (2, .v (.int .i64 v)), (7, entAV []), (8, .v (.int .i64 E)), (9, .v (.int .i64 E)), (10, entAV []), (11, .v (.int .i64 ((i + 1 : Nat) : Int)))]) ?_, i + 1, [], E, by omega, rfl, ⟨by simp, .inr ⟨hz, rfl, rfl⟩⟩, rfl⟩
              (repeat (first | exact tsok_nil | refine p_pure ?_ | refine p_eq ?_ ?_))
        · obtain rfl : i = l.length := by omega
          rw [List.drop_length] at hA
          obtain ⟨rfl, rfl⟩ := Prod.mk.inj hA
          have h4 := a_treeIs PL 0 0 PL hRu.big.len hRu.big.len
          rw [show treeIsB PL 0 0 PL = true from by unfold treeIsB; simp] at h4
          repeat' (first | refine walk ?_ | (first | (apply to_call Tryd.func17 rfl rfl; intro hIsFn; refine o_callf hIsFn (a_dbegun ..) ?_; skip) | (apply to_call Tryd.func26 rfl rfl; intro hIsFn; refine o_callp hIsFn (h4 ..) ?_)) | ((first | (apply ops_split_t; rfl; rfl; exact nle rfl) | (apply ops_split_f; rfl; rfl; exact nle rfl) | (apply awp_cond; rfl)); all_goals (intro hc; have hp := hc; first | (simp at hp; done) | ((try simp at hp); first | (exfalso; omega) | skip))) | (apply awp_cond_any; rfl))
          all_goals try (exfalso; first | omega | (simp_all; done))
          all_goals (apply fin_bool; rfl; simp; done)
      · have h4 := a_treeIs [] PE PE u (by simp) (by omega)
        rw [show treeIsB [] PE PE u = true from by unfold treeIsB; simp [hw]] at h4
        repeat' (first | refine walk ?_ | (first | (apply to_call Tryd.func17 rfl rfl; intro hIsFn; refine o_callf hIsFn (a_dbegun ..) ?_; skip) | (apply to_call Tryd.func26 rfl rfl; intro hIsFn; refine o_callp hIsFn (h4 ..) ?_)) | ((first | (apply ops_split_t; rfl; rfl; exact nle rfl) | (apply ops_split_f; rfl; rfl; exact nle rfl) | (apply awp_cond; rfl)); all_goals (intro hc; have hp := hc; first | (simp at hp; done) | ((try simp at hp); first | (exfalso; omega) | skip))) | (apply awp_cond_any; rfl))
        all_goals try (exfalso; first | omega | (simp_all; done))
        all_goals (apply fin_bool; rfl; simp; done)
  · rw [if_pos hte] at hE
    rw [hE] at h1
    have h1 : AFn C.P 36 [entAV t, chgAV l, .v (.int .i64 v)] (.tup [entAV [], .v (.int .i64 (treeErr t))]) := h1
    have h4 := a_treeIs [] (treeErr t) (treeErr t) t (by simp) hb.len
    have h5 : treeIsB [] (treeErr t) (treeErr t) t = true := by unfold treeIsB; simp [hte]
    rw [h5] at h4
    clear h5
    generalize treeErr t = E at *
    refine acall_intro Tryd.func12 rfl _ Tryd.ntmps12 (Nat.le_of_ble_eq_true rfl) _ Tryd.results12 0 rfl rfl ?_
    repeat' (first | refine walk ?_ | (first | (apply to_call Tryd.func17 rfl rfl; intro hIsFn; refine o_callf hIsFn (a_dbegun ..) ?_; skip) | (apply to_call Tryd.func36 rfl rfl; intro hIsFn; refine o_callp hIsFn (h1 ..) ?_) | (apply to_call Tryd.func22 rfl rfl; intro hIsFn; refine o_callp hIsFn (h2 ..) ?_)) | ((first | (apply ops_split_t; rfl; rfl; exact nle rfl) | (apply ops_split_f; rfl; rfl; exact nle rfl) | (apply awp_cond; rfl)); all_goals (intro hc; have hp := hc; first | (simp at hp; done) | ((try simp at hp); first | (exfalso; omega) | skip))) | (apply awp_cond_any; rfl))
    all_goals try (exfalso; first | omega | (simp_all; done))
    (refine Awp.red (red_pure (ts := [(0, entAV t), (1, chgAV l), (2, .v (.int .i64 v)), (7, entAV []), (8, .v (.int .i64 E)), (9, .v (.int .i64 E)), (10, entAV t), (11, .v (.int .i64 ((0 : Nat) : Int)))]) ?_) ?_; ((repeat (first | exact tsok_nil | refine p_pure ?_ | refine p_eq ?_ ?_))))
    refine awp_loop (fun n σ => σ = ⟨[(0, entAV t), (1, chgAV l), (2, .v (.int .i64 v)), (7, entAV []), (8, .v (.int .i64 E)), (9, .v (.int .i64 E)), (10, entAV t), (11, .v (.int .i64 ((0 : Nat) : Int)))], [], C.nh⟩) 0 rfl ?_
    rintro n σ rfl
    repeat' (first | refine walk ?_ | (first | (apply to_call Tryd.func17 rfl rfl; intro hIsFn; refine o_callf hIsFn (a_dbegun ..) ?_; skip) | (apply to_call Tryd.func26 rfl rfl; intro hIsFn; refine o_callp hIsFn (h4 ..) ?_)) | ((first | (apply ops_split_t; rfl; rfl; exact nle rfl) | (apply ops_split_f; rfl; rfl; exact nle rfl) | (apply awp_cond; rfl)); all_goals (intro hc; have hp := hc; first | (simp at hp; done) | ((try simp at hp); first | (exfalso; omega) | skip))) | (apply awp_cond_any; rfl))
    all_goals try (exfalso; first | omega | (simp_all; done))
    all_goals (apply fin_bool; rfl; simp; done)
theorem law_ddiffs_all (ys : List AV) (h : TyAllW C.tab 1000000000 [22, 22] ys) : AFn C.P 3 ys (.v (.bool true)) := by
  obtain ⟨_, _, rfl, h0, _, _, rfl, h1, rfl⟩ := h
  obtain ⟨a, rfl, ha⟩ := tyv_ents h0
  obtain ⟨b, rfl, hb⟩ := tyv_ents h1
  exact law_ddiffs a b ha hb
theorem law_dpatches_all (ys : List AV) (h : TyAllW C.tab 1000000000 [22, 23, 3] ys) : AFn C.P 12 ys (.v (.bool true)) := by
  obtain ⟨_, _, rfl, h0, _, _, rfl, h1, _, _, rfl, h2, rfl⟩ := h
  obtain ⟨a, rfl, ha⟩ := tyv_ents h0
  obtain ⟨b, rfl, hb⟩ := tyv_chgs h1
  obtain ⟨v, rfl, _⟩ := tyv_int h2
  exact law_dpatches a b v ha hb
end Go.Proofs.YtpeenheeakhlgaaDoor
