import Derived.Test.YtkkfilkmkdnboaaDoorMz14
import Derived.Test.YtkkfilkmkdnboaaDoorMz15
/- Paths in the abstract layer, 8: the reference's NamesOf, TooGreat, CheckPath, CheckPaths. -/
set_option linter.unusedSimpArgs false
set_option linter.unnecessarySimpa false
set_option maxHeartbeats 1000000
namespace Go.Proofs.YtkkfilkmkdnboaaDoor
open Go.Ab Go.RowKit
set_option maxRecDepth 10000
attribute [local irreducible] Awp Ops OpsX Wanted Red ExOk Go.Ab.Fin ACall Rz RzL RzRows Enters ResOk RenV RenVL ArgV ArgVL

def fromN (p : Str) (i : Nat) : Nat := i - (lastOf (p.take i)).length
def nsL (p : Str) (i : Nat) : List Str := (namesOf (p.take i)).dropLast
@[simp] theorem nsL_zero (p : Str) : nsL p 0 = [] := rfl
@[simp] theorem fromN_zero (p : Str) : fromN p 0 = 0 := rfl
@[simp] theorem cellsOf_str (s : Str) : cellsOf (AV.v (str s)) = [AV.v (str s)] := rfl
theorem last_eq {s : Str} {X : List Str} {y : Str} (h : namesOf s = X ++ [y]) : (namesOf s).dropLast = X ∧ lastOf s = y := by
  have h1 := (split_ref s).1
  rw [h, List.dropLast_concat] at h1
  refine ⟨by rw [h, List.dropLast_concat], ?_⟩
  have := List.append_cancel_left h1
  simpa using this.symm
theorem step_slash {p : Str} {i : Nat} (h : i < p.length) (hc : p[i] = 47) : nsL p (i + 1) = nsL p i ++ [lastOf (p.take i)] ∧ fromN p (i + 1) = i + 1 := by
  have e : p.take (i + 1) = p.take i ++ [47] := by rw [List.take_succ_eq_append_getElem h, hc]
  obtain ⟨h1, h2⟩ := last_eq (namesOf_slash (p.take i))
  refine ⟨?_, ?_⟩
  · show (namesOf (p.take (i + 1))).dropLast = _
    rw [e, h1]; exact (split_ref (p.take i)).1
  · show i + 1 - (lastOf (p.take (i + 1))).length = _
    rw [e, h2]; rfl
theorem step_other {p : Str} {i : Nat} (h : i < p.length) (hc : ¬ p[i] = 47) : nsL p (i + 1) = nsL p i ∧ fromN p (i + 1) = fromN p i := by
  have e : p.take (i + 1) = p.take i ++ [p[i]] := List.take_succ_eq_append_getElem h
  obtain ⟨h1, h2⟩ := last_eq (namesOf_snoc hc (p.take i))
  refine ⟨?_, ?_⟩
  · show (namesOf (p.take (i + 1))).dropLast = _
    rw [e, h1]; rfl
  · show i + 1 - (lastOf (p.take (i + 1))).length = _
    rw [e, h2]; unfold fromN; simp
theorem from_le {p : Str} {i : Nat} (h : i ≤ p.length) : fromN p i ≤ i ∧ (p.take i).drop (fromN p i) = lastOf (p.take i) := by
  have := (lastOf_suffix (p.take i)).2
  rw [List.length_take, Nat.min_eq_left h] at this
  exact ⟨Nat.sub_le _ _, this⟩
theorem nsL_len (p : Str) (i : Nat) : (nsL p i).length ≤ p.length := by
  unfold nsL
  rw [List.length_dropLast, namesOf_len]
  have h1 : (p.take i).count 47 ≤ (p.take i).length := List.count_le_length
  have h2 : (p.take i).length ≤ p.length := by rw [List.length_take]; omega
  omega
theorem namesOf_many (p : Str) : (namesOf p).length ≤ p.length + 1 := by
  rw [namesOf_len]
  have : p.count 47 ≤ p.length := List.count_le_length
  omega
end Go.Proofs.YtkkfilkmkdnboaaDoor

/- Paths in the abstract layer, 9: the reference's PathOf, ParentOf, LastOf, Joined, IsIn. -/
set_option linter.unusedSimpArgs false
set_option linter.unnecessarySimpa false
set_option maxHeartbeats 1000000
namespace Go.Proofs.YtkkfilkmkdnboaaDoor
open Go.Ab Go.RowKit
set_option maxRecDepth 10000
attribute [local irreducible] Awp Ops OpsX Wanted Red ExOk Go.Ab.Fin ACall Rz RzL RzRows Enters ResOk RenV RenVL ArgV ArgVL

theorem pathOf_take (l : List Str) (i : Nat) : (pathOf (l.take i)).length ≤ (pathOf l).length := by
  by_cases h1 : l.take i = []
  · rw [h1]; simp [pathOf]
  · by_cases h2 : l.drop i = []
    · have := List.take_append_drop i l
      rw [h2, List.append_nil] at this
      rw [this]; exact Nat.le_refl _
    · have h3 := pathOf_app h1 h2
      rw [List.take_append_drop] at h3
      rw [h3]; simp
theorem pathOf_mem {l : List Str} {i : Nat} (h : i < l.length) : l[i].length ≤ (pathOf l).length := by
  have h1 := pathOf_take l (i + 1)
  by_cases h0 : i = 0
  · subst h0
    rw [pathOf_first h] at h1; exact h1
  · rw [pathOf_succ h (by omega)] at h1
    simp at h1; omega
theorem a_pathOf (l : List Str) (hl : l.length ≤ 8000000000) (hp : (pathOf l).length ≤ 8000000000) : AFn C.P 82 [.sl false (l.map strRow)] (.v (str (pathOf l))) := by
  refine acall_intro Tryd.func82 rfl _ Tryd.ntmps82 (Nat.le_of_ble_eq_true rfl) _ Tryd.results82 0 rfl rfl ?_
  repeat' (first | refine walk ?_ | fail | ((first | (apply awp_cond; rfl)); all_goals (intro hc; have hp := hc; first | (simp at hp; done) | ((try simp at hp); first | (exfalso; omega) | skip))) | (apply awp_cond_any; rfl))
  (refine Awp.red (red_pure (ts := [(0, .sl false (l.map strRow)), (3, .v (str (pathOf (l.take 0)))), (4, .v (.int .i64 ((0 : Nat) : Int)))]) ?_) ?_; ((repeat (first | exact tsok_nil | refine p_pure ?_ | refine p_eq ?_ ?_))))
  refine awp_loop (fun n σ => ∃ i : Nat, i ≤ l.length ∧ n = l.length - i ∧ (True) ∧ σ = ⟨[(0, .sl false (l.map strRow)), (3, .v (str (pathOf (l.take i)))), (4, .v (.int .i64 (i : Int)))], [], C.nh⟩) l.length ⟨0, Nat.zero_le _, rfl, trivial, rfl⟩ ?_
  rintro n σ ⟨i, hi, rfl, -, rfl⟩
  by_cases hlt : i < l.length
  · have hr := getRow (f := strRow) hlt
    have hb1 := pathOf_take l i
    have hb2 := pathOf_mem hlt
    have hs0 := @pathOf_succ l i hlt
    have hf0 := @pathOf_first l (by omega)
    repeat' (first | refine walk ?_ | (first | (apply opsx_val; apply ex_sadd; rfl; rfl; (simp only [List.length_append, List.length_cons, List.length_nil]; omega); exact nle rfl)) | ((first | (apply awp_cond; rfl)); all_goals (intro hc; have hp := hc; first | (simp at hp; done) | ((try simp at hp); first | (exfalso; omega) | skip))) | (apply awp_cond_any; rfl))
    all_goals try (exfalso; omega)
    · refine ⟨l.length - (i + 1), _, by omega, red_pure (ts := [(0, .sl false (l.map strRow)), (3, .v (str (pathOf (l.take (i + 1))))), (4, .v (.int .i64 ((i + 1 : Nat) : Int)))]) ?_, i + 1, by omega, rfl, trivial, rfl⟩; ((repeat (first | exact tsok_nil | refine p_pure ?_ | refine p_eq ?_ ?_)); all_goals (rw [hs0 (by omega)]))
    · have h0 : i = 0 := by omega
      have hf1 : pathOf (l.take (i + 1)) = l[i] := by subst h0; exact hf0
      refine ⟨l.length - (i + 1), _, by omega, red_pure (ts := [(0, .sl false (l.map strRow)), (3, .v (str (pathOf (l.take (i + 1))))), (4, .v (.int .i64 ((i + 1 : Nat) : Int)))]) ?_, i + 1, by omega, rfl, trivial, rfl⟩; ((repeat (first | exact tsok_nil | refine p_pure ?_ | refine p_eq ?_ ?_)); all_goals (rw [hf1]; subst h0; rfl))
  obtain rfl : i = l.length := by omega
  rw [List.take_length]
  repeat' (first | refine walk ?_ | fail | ((first | (apply awp_cond; rfl)); all_goals (intro hc; have hp := hc; first | (simp at hp; done) | ((try simp at hp); first | (exfalso; omega) | skip))) | (apply awp_cond_any; rfl))
  all_goals try (exfalso; omega)
  (refine f_pure (rs := [.tmp 2]) ?_; (repeat' (first | exact rzl_nil | apply rzl_cons | exact rz_pure rfl | exact rz_ex | exact z_os | apply rz_agg | apply rz_tup | apply rz_clo | apply rz_int | apply rz_bool | apply rz_str | refine z_eq ?_ | apply rz_sl)); all_goals skip)
theorem names_pos (p : Str) : 0 < (namesOf p).length := List.length_pos_iff.2 (namesOf_ne p)
end Go.Proofs.YtkkfilkmkdnboaaDoor

/- Paths: Pa9, under the name that the trees know it by. -/
