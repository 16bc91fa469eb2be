/- Deltas: SameChanges, Patch; the laws DeltaDiffs and DeltaPatches, walked. -/
import Derived.Test.YtpeenheeakhlgaaDoorTw2
import Derived.Test.YtpeenheeakhlgaaDoorSc
import Derived.Test.YtpeenheeakhlgaaDoorTv1
set_option linter.unusedSimpArgs false
set_option linter.unnecessarySimpa false
set_option linter.unusedVariables false
set_option maxHeartbeats 1000000
namespace Go.Proofs.YtpeenheeakhlgaaDoor
open Go.Ab Go.RowKit
set_option maxRecDepth 10000
attribute [local irreducible] Awp Ops OpsX Wanted Red ExOk Go.Ab.Fin ACall Rz RzL RzRows Enters ResOk RenV RenVL ArgV ArgVL

theorem raw_len {a b : List Ent} (ha : Right a) (hb : Right b) : (rawD a b).length ≤ 120 := by
  have h1 := gones_len a b
  have h2 : (b.filter fun x => !stays a x).length ≤ b.length := List.length_filter_le ..
  have := ha.len
  have := hb.len
  simp only [rawD, List.length_append, List.length_map]; omega
/-- Changes, one after the other, each checked. -/
def patchR (v : Int) : List Ent → List Chg → List Ent × Int
  | t, [] => (t, 0)
  | t, c :: l => if applyE t c v = 0 then patchR v (doneL t c v) l else ([], applyE t c v)
def patchT (v : Int) (t : List Ent) (l : List Chg) : List Ent × Int := if ¬ treeErr t = 0 then ([], treeErr t) else if 120 < l.length then ([], 2) else patchR v t l
theorem patch_drop {v : Int} {t : List Ent} {l : List Chg} {i : Nat} (h : i < l.length) : patchR v t (l.drop i) = if applyE t l[i] v = 0 then patchR v (doneL t l[i] v) (l.drop (i + 1)) else ([], applyE t l[i] v) := by
  rw [List.drop_eq_getElem_cons h]; rfl
def resP (r : List Ent × Int) : AV := .tup [entAV r.1, .v (.int .i64 r.2)]
theorem a_patch (t : List Ent) (l : List Chg) (v : Int) (hb : EBig t) (hcb : CBig l) : AFn C.P 36 [entAV t, chgAV l, .v (.int .i64 v)] (resP (patchT v t l)) := by
  have h1 := a_tcheck t hb
  have hll := hcb.len
  have hml : (l.map Chg.row).length = l.length := List.length_map ..
  have hE : patchT v t l = if ¬ treeErr t = 0 then ([], treeErr t) else if 120 < l.length then ([], 2) else patchR v t l := rfl
  by_cases hte : treeErr t = 0
  · rw [if_neg (by simp [hte])] at hE
    have hR := right_iff.1 hte
    rw [hte] at h1
    have h60 := hR.len
    have h3 := a_cloneE t (by omega)
    by_cases h20 : 120 < l.length
    · rw [if_pos h20] at hE
      rw [hE]
      refine acall_intro Tryd.func36 rfl _ Tryd.ntmps36 (Nat.le_of_ble_eq_true rfl) _ Tryd.results36 0 rfl rfl ?_
      repeat' (first | refine walk ?_ | (first | (apply to_call Tryd.func32 rfl rfl; intro hIsFn; refine o_callp hIsFn (h1 ..) ?_)) | ((first | (apply awp_cond; rfl)); all_goals (intro hc; have hp := hc; first | (simp at hp; done) | ((try simp at hp); first | (exfalso; omega) | skip))) | (apply awp_cond_any; rfl))
      all_goals try (exfalso; first | omega | (simp_all; done))
      all_goals ((refine f_pure (rs := [.tmp 6, .tmp 7]) ?_; (repeat' (first | exact rzl_nil | apply rzl_cons | exact rz_pure rfl | exact rz_ex | exact z_os | apply rz_agg | apply rz_tup | apply rz_clo | apply rz_int | apply rz_bool | apply rz_str | refine z_eq ?_ | apply rz_sl)); all_goals trace_state))
    · rw [if_neg h20] at hE
      generalize hA : patchT v t l = A at *
      clear hA
      refine acall_intro Tryd.func36 rfl _ Tryd.ntmps36 (Nat.le_of_ble_eq_true rfl) _ Tryd.results36 0 rfl rfl ?_
      repeat' (first | refine walk ?_ | (first | (apply to_call Tryd.func32 rfl rfl; intro hIsFn; refine o_callp hIsFn (h1 ..) ?_) | (apply to_call Tryd.func51 rfl rfl; intro hIsFn; refine o_callo ([]) hIsFn (h3 ..) ?_)) | ((first | (apply awp_cond; rfl)); all_goals (intro hc; have hp := hc; first | (simp at hp; done) | ((try simp at hp); first | (exfalso; omega) | skip))) | (apply awp_cond_any; rfl))
      all_goals try (exfalso; first | omega | (simp_all; done))
      refine Awp.red (red_freeze 0 rfl (by intro row hrow; obtain ⟨x, _, rfl⟩ := List.mem_map.1 hrow; rfl)) ?_
      refine Awp.red (red_fs 0 0 rfl rfl (by simp)) ?_
      (refine Awp.red (red_pure (ts := [(0, entAV t), (2, .v (.int .i64 v)), (23, chgAV l), (24, .v (.int .i64 l.length)), (25, .v (.int .i64 ((0 : Nat) : Int)))]) ?_) ?_; ((repeat (first | exact tsok_nil | refine p_pure ?_ | refine p_eq ?_ ?_))))
      all_goals try (rw [List.length_map]; done)
      all_goals try (rw [List.drop_zero, List.take_of_length_le (by simp)]; rfl)
      refine awp_loop (fun n σ => ∃ (i : Nat) (u : List Ent), i ≤ l.length ∧ n = l.length - i ∧ (A = patchR v u (l.drop i) ∧ Right u) ∧ σ = ⟨[(0, entAV u), (2, .v (.int .i64 v)), (23, chgAV l), (24, .v (.int .i64 l.length)), (25, .v (.int .i64 (i : Int)))], [], C.nh⟩) l.length ⟨0, t, Nat.zero_le _, rfl, ⟨by rw [hE]; rfl, hR⟩, rfl⟩ ?_
      rintro n σ ⟨i, u, hi, rfl, ⟨hA, hRu⟩, rfl⟩
      by_cases hlt : i < l.length
      · have hr := getRow (f := Chg.row) hlt
        have hraw := a_apply u l[i] v hRu.big (hcb.each _ (List.getElem_mem _))
        rw [patch_drop hlt] at hA
        by_cases hz : applyE u l[i] v = 0
        · obtain ⟨_, _, _, hL, hRn⟩ := apply_zero hz
          rw [if_pos hz] at hA
          rw [hL, hz] at hraw
          generalize doneL u l[i] v = U at *
          clear hE hL hz
          repeat' (first | refine walk ?_ | (first | (apply to_call Tryd.func21 rfl rfl; intro hIsFn; refine o_callp hIsFn (hraw ..) ?_)) | ((first | (apply awp_cond; rfl)); all_goals (intro hc; have hp := hc; first | (simp at hp; done) | ((try simp at hp); first | (exfalso; omega) | skip))) | (apply awp_cond_any; rfl))
          all_goals try (exfalso; omega)
          refine ⟨l.length - (i + 1), _, by omega, red_pure (ts := [(0, entAV U), (2, .v (.int .i64 v)), (23, chgAV l), (24, .v (.int .i64 l.length)), (25, .v (.int .i64 ((i + 1 : Nat) : Int)))]) ?_, i + 1, U, by omega, rfl, ⟨hA, hRn⟩, rfl⟩
          (repeat (first | exact tsok_nil | refine p_pure ?_ | refine p_eq ?_ ?_))
        · rw [if_neg hz] at hA
          have hL : applyL u l[i] v = [] := by unfold applyL; rw [if_neg hz]
          rw [hL] at hraw
          rw [hA]
          generalize applyE u l[i] v = E at *
          clear hE hL hA
          repeat' (first | refine walk ?_ | (first | (apply to_call Tryd.func21 rfl rfl; intro hIsFn; refine o_callp hIsFn (hraw ..) ?_)) | ((first | (apply awp_cond; rfl)); all_goals (intro hc; have hp := hc; first | (simp at hp; done) | ((try simp at hp); first | (exfalso; omega) | skip))) | (apply awp_cond_any; rfl))
          all_goals try (exfalso; omega)
          (refine f_pure (rs := [.tmp 6, .tmp 7]) ?_; (repeat' (first | exact rzl_nil | apply rzl_cons | exact rz_pure rfl | exact rz_ex | exact z_os | apply rz_agg | apply rz_tup | apply rz_clo | apply rz_int | apply rz_bool | apply rz_str | refine z_eq ?_ | apply rz_sl)); all_goals trace_state)
      obtain rfl : i = l.length := by omega
      rw [List.drop_length] at hA
      have hA : A = (u, 0) := hA
      rw [hA]
      clear hE hA
      repeat' (first | refine walk ?_ | fail | ((first | (apply awp_cond; rfl)); all_goals (intro hc; have hp := hc; first | (simp at hp; done) | ((try simp at hp); first | (exfalso; omega) | skip))) | (apply awp_cond_any; rfl))
      all_goals try (exfalso; omega)
      (refine f_pure (rs := [.tmp 6, .tmp 7]) ?_; (repeat' (first | exact rzl_nil | apply rzl_cons | exact rz_pure rfl | exact rz_ex | exact z_os | apply rz_agg | apply rz_tup | apply rz_clo | apply rz_int | apply rz_bool | apply rz_str | refine z_eq ?_ | apply rz_sl)); all_goals trace_state)
  · rw [if_pos hte] at hE
    rw [hE]
    generalize treeErr t = E at *
    refine acall_intro Tryd.func36 rfl _ Tryd.ntmps36 (Nat.le_of_ble_eq_true rfl) _ Tryd.results36 0 rfl rfl ?_
    repeat' (first | refine walk ?_ | (first | (apply to_call Tryd.func32 rfl rfl; intro hIsFn; refine o_callp hIsFn (h1 ..) ?_)) | ((first | (apply awp_cond; rfl)); all_goals (intro hc; have hp := hc; first | (simp at hp; done) | ((try simp at hp); first | (exfalso; omega) | skip))) | (apply awp_cond_any; rfl))
    all_goals try (exfalso; omega)
    all_goals ((refine f_pure (rs := [.tmp 6, .tmp 7]) ?_; (repeat' (first | exact rzl_nil | apply rzl_cons | exact rz_pure rfl | exact rz_ex | exact z_os | apply rz_agg | apply rz_tup | apply rz_clo | apply rz_int | apply rz_bool | apply rz_str | refine z_eq ?_ | apply rz_sl)); all_goals trace_state))
end Go.Proofs.YtpeenheeakhlgaaDoor
