import Derived.Test.YtkkfilkmkdnboaaDoorMz14
import Derived.Test.YtkkfilkmkdnboaaDoorMz15
/- Deltas in the abstract layer, 1: like, EqualFunc, check, Same; the reference's LikeTrees. -/
set_option linter.unusedSimpArgs false
set_option linter.unnecessarySimpa false
set_option linter.unusedVariables false
set_option maxHeartbeats 1000000
namespace Go.Proofs.YtkkfilkmkdnboaaDoor
open Go.Ab Go.RowKit
set_option maxRecDepth 10000
attribute [local irreducible] Awp Ops OpsX Wanted Red ExOk Go.Ab.Fin ACall Rz RzL RzRows Enters ResOk RenV RenVL ArgV ArgVL

def likeE (a b : Ent) : Bool := decide (a.path = b.path) && decide (a.fold = b.fold) && decide (a.text = b.text)
/-- Are they the same, but for versions? -/
def likeT : List Ent → List Ent → Bool
  | [], [] => true
  | a :: s, b :: t => likeE a b && likeT s t
  | _, _ => false
theorem likeT_len : ∀ {a b : List Ent}, likeT a b = true → a.length = b.length
  | [], [], _ => rfl
  | a :: s, b :: t, h => by
    simp only [likeT, Bool.and_eq_true] at h
    simp [likeT_len h.2]
  | [], _ :: _, h => by simp [likeT] at h
  | _ :: _, [], h => by simp [likeT] at h
theorem likeT_all : ∀ {a b : List Ent}, a.length = b.length → (∀ i (h1 : i < a.length) (h2 : i < b.length), likeE a[i] b[i] = true) → likeT a b = true
  | [], [], _, _ => rfl
  | a :: s, b :: t, hl, h => by
    simp only [likeT, Bool.and_eq_true]
    exact ⟨h 0 (by simp) (by simp), likeT_all (by simpa using hl) fun i h1 h2 => h (i + 1) (by simpa using h1) (by simpa using h2)⟩
  | [], _ :: _, h, _ => by simp at h
  | _ :: _, [], h, _ => by simp at h
theorem likeT_at : ∀ {a b : List Ent}, likeT a b = true → ∀ i (h1 : i < a.length) (h2 : i < b.length), likeE a[i] b[i] = true
  | a :: s, b :: t, h, i, h1, h2 => by
    simp only [likeT, Bool.and_eq_true] at h
    cases i with
    | zero => exact h.1
    | succ i => exact likeT_at h.2 i (by simpa using h1) (by simpa using h2)
  | [], _, h, i, h1, h2 => by simp at h1
  | _ :: _, [], h, i, h1, h2 => by simp at h2
theorem likeT_bad {a b : List Ent} {i : Nat} (h1 : i < a.length) (h2 : i < b.length) (h : ¬ likeE a[i] b[i] = true) : likeT a b = false := by
  cases e : likeT a b
  · rfl
  · exact absurd (likeT_at e i h1 h2) h
theorem likeT_short {a b : List Ent} (h : ¬ a.length = b.length) : likeT a b = false := by
  cases e : likeT a b
  · rfl
  · exact absurd (likeT_len e) h

theorem a_likeTrees (a b : List Ent) (ha : a.length ≤ 140737488355328) (hb : b.length ≤ 140737488355328) : AFn C.P 40 [entAV a, entAV b] (.v (.bool (likeT a b))) := by
  have hma : (a.map Ent.row).length = a.length := List.length_map ..
  have hmb : (b.map Ent.row).length = b.length := List.length_map ..
  refine acall_intro Tryd.func40 rfl _ Tryd.ntmps40 (Nat.le_of_ble_eq_true rfl) _ Tryd.results40 0 rfl rfl ?_
  repeat' (first | refine walk ?_ | fail | ((first | (apply ops_split_t; rfl; rfl; exact nle rfl) | (apply ops_split_f; rfl; rfl; exact nle rfl) | (apply awp_cond; rfl)); all_goals (intro hc; have hp := hc; first | (simp at hp; done) | ((try simp at hp); first | (exfalso; omega) | skip))) | (apply awp_cond_any; rfl))
  · apply fin_bool
    rfl
    rw [likeT_short (by simp at *; omega)]
  have hab : a.length = b.length := by simp at *; omega
  (refine Awp.red (red_pure (ts := [(0, entAV a), (1, entAV b), (5, .v (.int .i64 ((0 : Nat) : Int)))]) ?_) ?_; ((repeat (first | exact tsok_nil | refine p_pure ?_ | refine p_eq ?_ ?_))))
  refine awp_loop (fun n σ => ∃ i : Nat, i ≤ a.length ∧ n = a.length - i ∧ (∀ k (h1 : k < a.length) (h2 : k < b.length), k < i → likeE a[k] b[k] = true) ∧ σ = ⟨[(0, entAV a), (1, entAV b), (5, .v (.int .i64 (i : Int)))], [], C.nh⟩) a.length ⟨0, Nat.zero_le _, rfl, (fun k _ _ h => absurd h (Nat.not_lt_zero _)), rfl⟩ ?_
  rintro n σ ⟨i, hi, rfl, hsofar, rfl⟩
  by_cases hlt : i < a.length
  · have hr := getRow (f := Ent.row) hlt
    have hr' := getRow (f := Ent.row) (l := b) (i := i) (by omega)
    have hlE : likeE a[i] (b[i]'(by omega)) = (decide (a[i].path = (b[i]'(by omega)).path) && decide (a[i].fold = (b[i]'(by omega)).fold) && decide (a[i].text = (b[i]'(by omega)).text)) := rfl
    have hbad := @likeT_bad a b i hlt (by omega)
    have hnx : likeE a[i] (b[i]'(by omega)) = true → ∀ k (h1 : k < a.length) (h2 : k < b.length), k < i + 1 → likeE a[k] b[k] = true := fun h k h1 h2 hk => by
      by_cases e : k = i
      · subst e; exact h
      · exact hsofar k h1 h2 (by omega)
    generalize likeE a[i] (b[i]'(by omega)) = E at *
    repeat' (first | refine walk ?_ | (first | (refine o_beq ?_)) | ((first | (apply ops_split_t; rfl; rfl; exact nle rfl) | (apply ops_split_f; rfl; rfl; exact nle rfl) | (apply awp_cond; rfl)); all_goals (intro hc; have hp := hc; first | (simp at hp; done) | ((try simp at hp); first | (exfalso; omega) | skip))) | (apply awp_cond_any; rfl))
    all_goals try (exfalso; omega)
    all_goals first
      | (apply fin_bool
         rfl
         rw [hbad (by rw [hlE]; simp_all)])
      | refine ⟨a.length - (i + 1), _, by omega, red_pure (ts := [(0, entAV a), (1, entAV b), (5, .v (.int .i64 ((i + 1 : Nat) : Int)))]) ?_, i + 1, by omega, rfl, hnx (by rw [hlE]; simp_all), rfl⟩; ((repeat (first | exact tsok_nil | refine p_pure ?_ | refine p_eq ?_ ?_)))
  obtain rfl : i = a.length := by omega
  repeat' (first | refine walk ?_ | fail | ((first | (apply ops_split_t; rfl; rfl; exact nle rfl) | (apply ops_split_f; rfl; rfl; exact nle rfl) | (apply awp_cond; rfl)); all_goals (intro hc; have hp := hc; first | (simp at hp; done) | ((try simp at hp); first | (exfalso; omega) | skip))) | (apply awp_cond_any; rfl))
  all_goals try (exfalso; omega)
  apply fin_bool
  rfl
  rw [likeT_all hab fun k h1 h2 => hsofar k h1 h2 h1]
def twoErr (a b : List Ent) : Int := firstErr treeErr [a, b]
theorem twoErr_eq (a b : List Ent) : twoErr a b = if treeErr a = 0 then treeErr b else treeErr a := by simp only [twoErr, firstErr]; split <;> (try split) <;> simp_all
end Go.Proofs.YtkkfilkmkdnboaaDoor

/- Copies of slices of entries and of changes. -/
set_option linter.unusedSimpArgs false
set_option linter.unnecessarySimpa false
set_option linter.unusedVariables false
set_option maxHeartbeats 1000000
namespace Go.Proofs.YtkkfilkmkdnboaaDoor
open Go.Ab Go.RowKit
set_option maxRecDepth 10000
attribute [local irreducible] Awp Ops OpsX Wanted Red ExOk Go.Ab.Fin ACall Rz RzL RzRows Enters ResOk RenV RenVL ArgV ArgVL

theorem a_cloneEF (l : List Ent) (hl : l.length ≤ 1000000) : AFn C.P 43 [entAV l] (entAV l) :=
  afn_of_own (a_cloneE l hl) (rz_os_pure rfl (by simp) (pures_map fun _ => rfl))
theorem a_cloneC (l : List Chg) (hl : l.length ≤ 1000000) :
    ACall C.P 49 [chgAV l] [] (.os 0 0 l.length) [.own false 5 (l.map Chg.row)] := by
  by_cases h0 : l = []
  · subst h0
    refine acall_intro Tryd.func49 rfl _ Tryd.ntmps49 (Nat.le_of_ble_eq_true rfl) _ Tryd.results49 0 rfl rfl ?_
    repeat' (first | refine walk ?_ | (first | (refine o_fzl ?_) | (refine o_appn ?_) | (refine o_isnil ?_)) | ((first | (apply awp_cond; rfl)); all_goals (intro hc; have hp := hc; first | (simp at hp; done) | ((try simp at hp); first | (exfalso; omega) | skip))) | (apply awp_cond_any; rfl))
    · (refine fin_red (C := C) (red_nil (C := C) 2 5 rfl (Nat.zero_le _)) ?_)
      (apply fin_ownr (rs := [.tmp 2]) [(0, 0)] 1; (case hr => (repeat (first | exact resok_nil | (apply resok_tmp; rfl) | (apply resok_cell; rfl; rfl; rfl; rfl; rfl)))); (case hL => rfl); (case hh => (repeat (first | exact hsok_nil | refine q_id ?_ | refine q_idx ?_ ?_)); all_goals skip); (case hi => first | exact (rfl : _ = ([] : List (Nat × Nat))) | exact (rfl : _ = [((0 : Nat), (0 : Nat))]) | exact (rfl : _ = [((0 : Nat), (0 : Nat)), (1, 1)])); (case hz => first | rfl | (simp [pack, AV.ren, AV.ren.renL, lookN, getT, enumT]; done) | (simp [pack, AV.ren, AV.ren.renL, lookN, getT, enumT, *]; done) | skip))
    · (apply fin_ownr (rs := [.tmp 2]) [(0, 0)] 1; (case hr => (repeat (first | exact resok_nil | (apply resok_tmp; rfl) | (apply resok_cell; rfl; rfl; rfl; rfl; rfl)))); (case hL => rfl); (case hh => (repeat (first | exact hsok_nil | refine q_id ?_ | refine q_idx ?_ ?_)); all_goals skip); (case hi => first | exact (rfl : _ = ([] : List (Nat × Nat))) | exact (rfl : _ = [((0 : Nat), (0 : Nat))]) | exact (rfl : _ = [((0 : Nat), (0 : Nat)), (1, 1)])); (case hz => first | rfl | (simp [pack, AV.ren, AV.ren.renL, lookN, getT, enumT]; done) | (simp [pack, AV.ren, AV.ren.renL, lookN, getT, enumT, *]; done) | skip))
  · refine acall_intro Tryd.func49 rfl _ Tryd.ntmps49 (Nat.le_of_ble_eq_true rfl) _ Tryd.results49 0 rfl rfl ?_
    repeat' (first | refine walk ?_ | (first | (refine o_fzl ?_) | (refine o_appn ?_) | (apply opsx_val; apply ex_notnil; rfl; exact (fun h => h0 (List.map_eq_nil_iff.1 h)); rfl; rfl; (first | exact .inl rfl | exact .inr rfl); exact nle rfl)) | ((first | (apply awp_cond; rfl)); all_goals (intro hc; have hp := hc; first | (simp at hp; done) | ((try simp at hp); first | (exfalso; omega) | skip))) | (apply awp_cond_any; rfl))
    (apply fin_ownr (rs := [.tmp 2]) [(0, 0)] 1; (case hr => (repeat (first | exact resok_nil | (apply resok_tmp; rfl) | (apply resok_cell; rfl; rfl; rfl; rfl; rfl)))); (case hL => rfl); (case hh => (repeat (first | exact hsok_nil | refine q_id ?_ | refine q_idx ?_ ?_)); all_goals skip); (case hi => first | exact (rfl : _ = ([] : List (Nat × Nat))) | exact (rfl : _ = [((0 : Nat), (0 : Nat))]) | exact (rfl : _ = [((0 : Nat), (0 : Nat)), (1, 1)])); (case hz => first | rfl | (simp [pack, AV.ren, AV.ren.renL, lookN, getT, enumT]; done) | (simp [pack, AV.ren, AV.ren.renL, lookN, getT, enumT, *]; done) | skip))
theorem a_cloneCF (l : List Chg) (hl : l.length ≤ 1000000) : AFn C.P 49 [chgAV l] (chgAV l) :=
  afn_of_own (a_cloneC l hl) (rz_os_pure rfl (by simp) (pures_map fun _ => rfl))
end Go.Proofs.YtkkfilkmkdnboaaDoor
