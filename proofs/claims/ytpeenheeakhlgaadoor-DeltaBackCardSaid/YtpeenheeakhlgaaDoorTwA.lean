import Derived.Test.YtpeenheeakhlgaaDoorTrA
import Derived.Test.YtpeenheeakhlgaaDoorLkA
/- Deltas in the abstract layer, 1: like, EqualFunc, check, Same; the reference's LikeTrees. -/
set_option linter.unusedSimpArgs false
set_option linter.unnecessarySimpa false
set_option linter.unusedVariables false
set_option maxHeartbeats 1000000
namespace Go.Proofs.YtpeenheeakhlgaaDoor
open Go.Ab Go.RowKit
set_option maxRecDepth 10000
attribute [local irreducible] Awp Ops OpsX Wanted Red ExOk Go.Ab.Fin ACall Rz RzL RzRows Enters ResOk RenV RenVL ArgV ArgVL

def likeE (a b : Ent) : Bool := decide (a.path = b.path) && decide (a.fold = b.fold) && decide (a.text = b.text)
/-- Are they the same, but for versions? -/
def likeT : List Ent → List Ent → Bool
  | [], [] => true
  | a :: s, b :: t => likeE a b && likeT s t
  | _, _ => false
theorem likeT_len : ∀ {a b : List Ent}, likeT a b = true → a.length = b.length
  | [], [], _ => rfl
  | a :: s, b :: t, h => by
    simp only [likeT, Bool.and_eq_true] at h
    simp [likeT_len h.2]
  | [], _ :: _, h => by simp [likeT] at h
  | _ :: _, [], h => by simp [likeT] at h
theorem likeT_all : ∀ {a b : List Ent}, a.length = b.length → (∀ i (h1 : i < a.length) (h2 : i < b.length), likeE a[i] b[i] = true) → likeT a b = true
  | [], [], _, _ => rfl
  | a :: s, b :: t, hl, h => by
    simp only [likeT, Bool.and_eq_true]
    exact ⟨h 0 (by simp) (by simp), likeT_all (by simpa using hl) fun i h1 h2 => h (i + 1) (by simpa using h1) (by simpa using h2)⟩
  | [], _ :: _, h, _ => by simp at h
  | _ :: _, [], h, _ => by simp at h
theorem likeT_at : ∀ {a b : List Ent}, likeT a b = true → ∀ i (h1 : i < a.length) (h2 : i < b.length), likeE a[i] b[i] = true
  | a :: s, b :: t, h, i, h1, h2 => by
    simp only [likeT, Bool.and_eq_true] at h
    cases i with
    | zero => exact h.1
    | succ i => exact likeT_at h.2 i (by simpa using h1) (by simpa using h2)
  | [], _, h, i, h1, h2 => by simp at h1
  | _ :: _, [], h, i, h1, h2 => by simp at h2
theorem likeT_bad {a b : List Ent} {i : Nat} (h1 : i < a.length) (h2 : i < b.length) (h : ¬ likeE a[i] b[i] = true) : likeT a b = false := by
  cases e : likeT a b
  · rfl
  · exact absurd (likeT_at e i h1 h2) h
theorem likeT_short {a b : List Ent} (h : ¬ a.length = b.length) : likeT a b = false := by
  cases e : likeT a b
  · rfl
  · exact absurd (likeT_len e) h

theorem a_like (a b : Ent) : AFn C.P 40 [.agg a.row, .agg b.row] (.v (.bool (likeE a b))) := by
  have hE : likeE a b = (decide (a.path = b.path) && decide (a.fold = b.fold) && decide (a.text = b.text)) := rfl
  generalize likeE a b = E at *
  refine acall_intro Tryd.func40 rfl _ Tryd.ntmps40 (Nat.le_of_ble_eq_true rfl) _ Tryd.results40 0 rfl rfl ?_
  repeat' (first | refine walk ?_ | (first | (refine o_beq ?_)) | ((first | (apply ops_split_t; rfl; rfl; exact nle rfl) | (apply ops_split_f; rfl; rfl; exact nle rfl) | (apply awp_cond; rfl)); all_goals (intro hc; have hp := hc; first | (simp at hp; done) | ((try simp at hp); first | (exfalso; omega) | skip))) | (apply awp_cond_any; rfl))
  all_goals (apply fin_bool; rfl; rw [hE]; simp_all)
theorem a_equalE (a b : List Ent) (ha : a.length ≤ 140737488355328) (hb : b.length ≤ 140737488355328) :
    AFn C.P 39 [entAV a, entAV b, .clo (.func 40) [] []] (.v (.bool (likeT a b))) := by
  have hma : (a.map Ent.row).length = a.length := List.length_map ..
  have hmb : (b.map Ent.row).length = b.length := List.length_map ..
  refine acall_intro Tryd.func39 rfl _ Tryd.ntmps39 (Nat.le_of_ble_eq_true rfl) _ Tryd.results39 0 rfl rfl ?_
  repeat' (first | refine walk ?_ | fail | ((first | (apply awp_cond; rfl)); all_goals (intro hc; have hp := hc; first | (simp at hp; done) | ((try simp at hp); first | (exfalso; omega) | skip))) | (apply awp_cond_any; rfl))
  · apply fin_bool
    rfl
    rw [likeT_short (by simp at *; omega)]
  have hab : a.length = b.length := by simp at *; omega
  (refine Awp.red (red_pure (ts := [(1, entAV b), (2, .clo (.func 40) [] []), (15, entAV a), (16, .v (.int .i64 a.length)), (17, .v (.int .i64 ((0 : Nat) : Int)))]) ?_) ?_; ((repeat (first | exact tsok_nil | refine p_pure ?_ | refine p_eq ?_ ?_))))
  all_goals try (rw [List.length_map]; done)
  refine awp_loop (fun n σ => ∃ i : Nat, i ≤ a.length ∧ n = a.length - i ∧ (∀ k (h1 : k < a.length) (h2 : k < b.length), k < i → likeE a[k] b[k] = true) ∧ σ = ⟨[(1, entAV b), (2, .clo (.func 40) [] []), (15, entAV a), (16, .v (.int .i64 a.length)), (17, .v (.int .i64 (i : Int)))], [], C.nh⟩) a.length ⟨0, Nat.zero_le _, rfl, (fun k _ _ h => absurd h (Nat.not_lt_zero _)), rfl⟩ ?_
  rintro n σ ⟨i, hi, rfl, hsofar, rfl⟩
  by_cases hlt : i < a.length
  · have hr := getRow (f := Ent.row) hlt
    have hr' := getRow (f := Ent.row) (l := b) (i := i) (by omega)
    have hlk := a_like a[i] (b[i]'(by omega))
    have hbad := @likeT_bad a b i hlt (by omega)
    have hnx : likeE a[i] (b[i]'(by omega)) = true → ∀ k (h1 : k < a.length) (h2 : k < b.length), k < i + 1 → likeE a[k] b[k] = true := fun h k h1 h2 hk => by
      by_cases e : k = i
      · subst e; exact h
      · exact hsofar k h1 h2 (by omega)
    generalize likeE a[i] (b[i]'(by omega)) = E at *
    repeat' (first | refine walk ?_ | (first | (refine o_callv Tryd.func40 (hlk ..) ?_)) | ((first | (apply awp_cond; rfl)); all_goals (intro hc; have hp := hc; first | (simp at hp; done) | ((try simp at hp); first | (exfalso; omega) | skip))) | (apply awp_cond_any; rfl))
    all_goals try (exfalso; omega)
    · apply fin_bool
      rfl
      rw [hbad (by simp_all)]
    · refine ⟨a.length - (i + 1), _, by omega, red_pure (ts := [(1, entAV b), (2, .clo (.func 40) [] []), (15, entAV a), (16, .v (.int .i64 a.length)), (17, .v (.int .i64 ((i + 1 : Nat) : Int)))]) ?_, i + 1, by omega, rfl, hnx (by simp_all), rfl⟩; ((repeat (first | exact tsok_nil | refine p_pure ?_ | refine p_eq ?_ ?_)))
  obtain rfl : i = a.length := by omega
  repeat' (first | refine walk ?_ | fail | ((first | (apply awp_cond; rfl)); all_goals (intro hc; have hp := hc; first | (simp at hp; done) | ((try simp at hp); first | (exfalso; omega) | skip))) | (apply awp_cond_any; rfl))
  all_goals try (exfalso; omega)
  apply fin_bool
  rfl
  rw [likeT_all hab fun k h1 h2 => hsofar k h1 h2 h1]
theorem a_likeTrees (a b : List Ent) (ha : a.length ≤ 140737488355328) (hb : b.length ≤ 140737488355328) : AFn C.P 20 [entAV a, entAV b] (.v (.bool (likeT a b))) := by
  have hma : (a.map Ent.row).length = a.length := List.length_map ..
  have hmb : (b.map Ent.row).length = b.length := List.length_map ..
  refine acall_intro Tryd.func20 rfl _ Tryd.ntmps20 (Nat.le_of_ble_eq_true rfl) _ Tryd.results20 0 rfl rfl ?_
  repeat' (first | refine walk ?_ | fail | ((first | (apply ops_split_t; rfl; rfl; exact nle rfl) | (apply ops_split_f; rfl; rfl; exact nle rfl) | (apply awp_cond; rfl)); all_goals (intro hc; have hp := hc; first | (simp at hp; done) | ((try simp at hp); first | (exfalso; omega) | skip))) | (apply awp_cond_any; rfl))
  · apply fin_bool
    rfl
    rw [likeT_short (by simp at *; omega)]
  have hab : a.length = b.length := by simp at *; omega
  (refine Awp.red (red_pure (ts := [(0, entAV a), (1, entAV b), (5, .v (.int .i64 ((0 : Nat) : Int)))]) ?_) ?_; ((repeat (first | exact tsok_nil | refine p_pure ?_ | refine p_eq ?_ ?_))))
  refine awp_loop (fun n σ => ∃ i : Nat, i ≤ a.length ∧ n = a.length - i ∧ (∀ k (h1 : k < a.length) (h2 : k < b.length), k < i → likeE a[k] b[k] = true) ∧ σ = ⟨[(0, entAV a), (1, entAV b), (5, .v (.int .i64 (i : Int)))], [], C.nh⟩) a.length ⟨0, Nat.zero_le _, rfl, (fun k _ _ h => absurd h (Nat.not_lt_zero _)), rfl⟩ ?_
  rintro n σ ⟨i, hi, rfl, hsofar, rfl⟩
  by_cases hlt : i < a.length
  · have hr := getRow (f := Ent.row) hlt
    have hr' := getRow (f := Ent.row) (l := b) (i := i) (by omega)
    have hlE : likeE a[i] (b[i]'(by omega)) = (decide (a[i].path = (b[i]'(by omega)).path) && decide (a[i].fold = (b[i]'(by omega)).fold) && decide (a[i].text = (b[i]'(by omega)).text)) := rfl
    have hbad := @likeT_bad a b i hlt (by omega)
    have hnx : likeE a[i] (b[i]'(by omega)) = true → ∀ k (h1 : k < a.length) (h2 : k < b.length), k < i + 1 → likeE a[k] b[k] = true := fun h k h1 h2 hk => by
      by_cases e : k = i
      · subst e; exact h
      · exact hsofar k h1 h2 (by omega)
    generalize likeE a[i] (b[i]'(by omega)) = E at *
    repeat' (first | refine walk ?_ | (first | (refine o_beq ?_)) | ((first | (apply ops_split_t; rfl; rfl; exact nle rfl) | (apply ops_split_f; rfl; rfl; exact nle rfl) | (apply awp_cond; rfl)); all_goals (intro hc; have hp := hc; first | (simp at hp; done) | ((try simp at hp); first | (exfalso; omega) | skip))) | (apply awp_cond_any; rfl))
    all_goals try (exfalso; omega)
    all_goals first
      | (apply fin_bool
         rfl
         rw [hbad (by rw [hlE]; simp_all)])
      | refine ⟨a.length - (i + 1), _, by omega, red_pure (ts := [(0, entAV a), (1, entAV b), (5, .v (.int .i64 ((i + 1 : Nat) : Int)))]) ?_, i + 1, by omega, rfl, hnx (by rw [hlE]; simp_all), rfl⟩; ((repeat (first | exact tsok_nil | refine p_pure ?_ | refine p_eq ?_ ?_)))
  obtain rfl : i = a.length := by omega
  repeat' (first | refine walk ?_ | fail | ((first | (apply ops_split_t; rfl; rfl; exact nle rfl) | (apply ops_split_f; rfl; rfl; exact nle rfl) | (apply awp_cond; rfl)); all_goals (intro hc; have hp := hc; first | (simp at hp; done) | ((try simp at hp); first | (exfalso; omega) | skip))) | (apply awp_cond_any; rfl))
  all_goals try (exfalso; omega)
  apply fin_bool
  rfl
  rw [likeT_all hab fun k h1 h2 => hsofar k h1 h2 h1]
def twoErr (a b : List Ent) : Int := firstErr treeErr [a, b]
theorem twoErr_eq (a b : List Ent) : twoErr a b = if treeErr a = 0 then treeErr b else treeErr a := by simp only [twoErr, firstErr]; split <;> (try split) <;> simp_all
theorem a_dcheck (a b : List Ent) (ha : EBig a) (hb : EBig b) : AFn C.P 37 [entAV a, entAV b] (.v (.int .i64 (twoErr a b))) := by
  have h1 := a_tcheck a ha
  have h2 := a_tcheck b hb
  rw [twoErr_eq]
  generalize treeErr a = A at *
  generalize treeErr b = B at *
  refine acall_intro Tryd.func37 rfl _ Tryd.ntmps37 (Nat.le_of_ble_eq_true rfl) _ Tryd.results37 0 rfl rfl ?_
  repeat' (first | refine walk ?_ | (first | (apply to_call Tryd.func32 rfl rfl; intro hIsFn; refine o_callf hIsFn (h1 ..) ?_; skip) | (apply to_call Tryd.func32 rfl rfl; intro hIsFn; refine o_callf hIsFn (h2 ..) ?_; skip)) | ((first | (apply awp_cond; rfl)); all_goals (intro hc; have hp := hc; first | (simp at hp; done) | ((try simp at hp); first | (exfalso; omega) | skip))) | (apply awp_cond_any; rfl))
  all_goals try (exfalso; omega)
  all_goals (apply fin_int; rfl; simp_all)
theorem a_same (a b : List Ent) (ha : EBig a) (hb : EBig b) : AFn C.P 19 [entAV a, entAV b] (.tup [.v (.bool (decide (twoErr a b = 0) && likeT a b)), .v (.int .i64 (twoErr a b))]) := by
  have h1 := a_dcheck a b ha hb
  have h2 := a_equalE a b ha.len hb.len
  generalize twoErr a b = E at *
  generalize likeT a b = L at *
  refine acall_intro Tryd.func19 rfl _ Tryd.ntmps19 (Nat.le_of_ble_eq_true rfl) _ Tryd.results19 0 rfl rfl ?_
  repeat' (first | refine walk ?_ | (first | (apply to_call Tryd.func37 rfl rfl; intro hIsFn; refine o_callf hIsFn (h1 ..) ?_; skip) | (apply to_call Tryd.func39 rfl rfl; intro hIsFn; refine o_callf hIsFn (h2 ..) ?_; skip)) | ((first | (apply awp_cond; rfl)); all_goals (intro hc; have hp := hc; first | (simp at hp; done) | ((try simp at hp); first | (exfalso; omega) | skip))) | (apply awp_cond_any; rfl))
  all_goals try (exfalso; omega)
  all_goals ((refine f_pure (rs := [.tmp 4, .tmp 5]) ?_; (repeat' (first | exact rzl_nil | apply rzl_cons | exact rz_pure rfl | exact rz_ex | exact z_os | apply rz_agg | apply rz_tup | apply rz_clo | apply rz_int | apply rz_bool | apply rz_str | refine z_eq ?_ | apply rz_sl)); all_goals (simp_all)))
end Go.Proofs.YtpeenheeakhlgaaDoor

/- Deltas in the abstract layer, 2: Raw, Diff. -/
set_option linter.unusedSimpArgs false
set_option linter.unnecessarySimpa false
set_option linter.unusedVariables false
set_option maxHeartbeats 1000000
namespace Go.Proofs.YtpeenheeakhlgaaDoor
open Go.Ab Go.RowKit
set_option maxRecDepth 10000
attribute [local irreducible] Awp Ops OpsX Wanted Red ExOk Go.Ab.Fin ACall Rz RzL RzRows Enters ResOk RenV RenVL ArgV ArgVL

theorem a_indexS (p : Str → Bool) (g : FuncId) (hg : IsFn C.P g) (cap : List AV) (hcap : AV.pure.pureL cap = true) (l : List (Str)) (hl : l.length ≤ 1000000) (hc : ∀ s, s ∈ l → AFn C.P g ((AV.v (str s)) :: cap) (.v (.bool (p s)))) :
    AFn C.P 66 [.sl false (l.map strRow), .clo (.func g) [] cap] (.v (.int .i64 (idxOf p l))) := by
  refine acall_intro Tryd.func66 rfl _ Tryd.ntmps66 (Nat.le_of_ble_eq_true rfl) _ Tryd.results66 0 rfl rfl ?_
  repeat' (first | refine walk ?_ | fail | ((first | (apply awp_cond; rfl)); all_goals (intro hc; have hp := hc; first | (simp at hp; done) | ((try simp at hp); first | (exfalso; omega) | skip))) | (apply awp_cond_any; rfl))
  (refine Awp.red (red_pure (ts := [(0, .sl false (l.map strRow)), (1, .clo (.func g) [] cap), (7, .v (.int .i64 l.length)), (8, .v (.int .i64 ((0 : Nat) : Int)))]) ?_) ?_; ((repeat (first | exact tsok_nil | refine p_pure ?_ | refine p_eq ?_ ?_))))
  all_goals try (rw [List.length_map]; done)
  refine awp_loop (fun n σ => ∃ i : Nat, i ≤ l.length ∧ n = l.length - i ∧ (∀ s, s ∈ l.take i → p s = false) ∧ σ = ⟨[(0, .sl false (l.map strRow)), (1, .clo (.func g) [] cap), (7, .v (.int .i64 l.length)), (8, .v (.int .i64 (i : Int)))], [], C.nh⟩) l.length ⟨0, Nat.zero_le _, rfl, (by simp), rfl⟩ ?_
  rintro n σ ⟨i, hi, rfl, hsofar, rfl⟩
  by_cases hlt : i < l.length
  · have hr := getRow (f := strRow) hlt
    have hci := hc l[i] (List.getElem_mem _)
    repeat' (first | refine walk ?_ | (first | (apply opsx_val; apply ex_callv []; rfl; exact hg; exact hci; (case hz => exact rzl_cons (rz_pure rfl) (rzl_self hcap)); (case hfl => rfl); (case hN => exact nle rfl))) | ((first | (apply awp_cond; rfl)); all_goals (intro hc; have hp := hc; first | (simp at hp; done) | ((try simp at hp); first | (exfalso; omega) | skip))) | (apply awp_cond_any; rfl))
    all_goals try (exfalso; omega)
    · apply fin_int
      rfl
      exact (idxOf_at hlt hsofar hp).symm
    · refine ⟨l.length - (i + 1), _, by omega, red_pure (ts := [(0, .sl false (l.map strRow)), (1, .clo (.func g) [] cap), (7, .v (.int .i64 l.length)), (8, .v (.int .i64 ((i + 1 : Nat) : Int)))]) ?_, i + 1, by omega, rfl, mem_take_succ hlt hsofar hp, rfl⟩; ((repeat (first | exact tsok_nil | refine p_pure ?_ | refine p_eq ?_ ?_)))
  obtain rfl : i = l.length := by omega
  repeat' (first | refine walk ?_ | fail | ((first | (apply awp_cond; rfl)); all_goals (intro hc; have hp := hc; first | (simp at hp; done) | ((try simp at hp); first | (exfalso; omega) | skip))) | (apply awp_cond_any; rfl))
  all_goals try (exfalso; omega)
  apply fin_int
  rfl
  exact (idxOf_none fun s hs => hsofar s (by rw [List.take_length]; exact hs)).symm
theorem a_containsS (p : Str → Bool) (g : FuncId) (hg : IsFn C.P g) (cap : List AV) (hcap : AV.pure.pureL cap = true) (l : List (Str)) (hl : l.length ≤ 1000000) (hc : ∀ s, s ∈ l → AFn C.P g ((AV.v (str s)) :: cap) (.v (.bool (p s)))) :
    AFn C.P 55 [.sl false (l.map strRow), .clo (.func g) [] cap] (.v (.bool (l.any p))) := by
  have hidx := a_indexS p g hg cap hcap l hl hc
  refine acall_intro Tryd.func55 rfl _ Tryd.ntmps55 (Nat.le_of_ble_eq_true rfl) _ Tryd.results55 0 rfl rfl ?_
  repeat' (first | refine walk ?_ | (first | (apply opsx_val; apply ex_call []; exact isFn_of Tryd.func66 rfl rfl; exact hidx; (case hz => exact rzl_cons (rz_pure rfl) (rzl_cons (rz_clo_pure hcap) rzl_nil)); (case hfl => rfl); (case hN => exact nle rfl))) | ((first | (apply awp_cond; rfl)); all_goals (intro hc; have hp := hc; first | (simp at hp; done) | ((try simp at hp); first | (exfalso; omega) | skip))) | (apply awp_cond_any; rfl))
  apply fin_bool
  rfl
  rw [← idxOf_any]
def differs (b : List Ent) (x : Ent) : Bool := match b.find? (atP x.path) with | none => true | some y => decide (¬ y.fold = x.fold)
def goneStep (b : List Ent) (g : List Str) (x : Ent) : List Str := if (g.any fun p => inB x.path p) = true then g else if differs b x = true then g ++ [x.path] else g
def gonesOf (a b : List Ent) : List Str := a.foldl (goneStep b) []
def delChg (p : Str) : Chg := ⟨4, p, [], [], -1⟩
def mkChg (x : Ent) : Chg := ⟨if x.fold = true then 1 else 2, x.path, [], x.text, -1⟩
def stays (a : List Ent) (x : Ent) : Bool := match a.find? (atP x.path) with | some y => likeE y x | none => false
def rawD (a b : List Ent) : List Chg := (gonesOf a b).map delChg ++ (b.filter fun x => !stays a x).map mkChg

theorem gones_succ {a b : List Ent} {i : Nat} (h : i < a.length) : gonesOf (a.take (i + 1)) b = goneStep b (gonesOf (a.take i) b) a[i] := by
  unfold gonesOf
  rw [List.take_succ_eq_append_getElem h, List.foldl_append]; rfl
theorem gones_len (a b : List Ent) : (gonesOf a b).length ≤ a.length := by
  have : ∀ (l : List Ent) (g : List Str), (l.foldl (goneStep b) g).length ≤ g.length + l.length := by
    intro l
    induction l with
    | nil => intro g; simp
    | cons x l ih =>
      intro g
      have h1 := ih (goneStep b g x)
      have h2 : (goneStep b g x).length ≤ g.length + 1 := by unfold goneStep; split <;> (try split) <;> simp
      simp only [List.foldl_cons, List.length_cons]; omega
  have := this a []
  simpa [gonesOf] using this
def rawTo (a b : List Ent) (i : Nat) : List Chg := (gonesOf a b).map delChg ++ ((b.take i).filter fun x => !stays a x).map mkChg
theorem raw_succ {a b : List Ent} {i : Nat} (h : i < b.length) : rawTo a b (i + 1) = if stays a b[i] = true then rawTo a b i else rawTo a b i ++ [mkChg b[i]] := by
  unfold rawTo
  rw [List.take_succ_eq_append_getElem h, List.filter_append]
  cases hs : stays a b[i] <;> simp [hs]
theorem a_rawC (x : Ent) (p : Str) (hp : p.length ≤ 140737488355328) : AFn C.P 56 [.v (str p), .fp [x.row] 0 0] (.v (.bool (inB x.path p))) := by
  have hin := a_in x.path p hp
  refine acall_intro Tryd.func56 rfl _ Tryd.ntmps56 (Nat.le_of_ble_eq_true rfl) _ Tryd.results56 0 rfl rfl ?_
  repeat' (first | refine walk ?_ | (first | (apply to_call Tryd.func57 rfl rfl; intro hIsFn; refine o_callf hIsFn (hin ..) ?_; skip)) | ((first | (apply awp_cond; rfl)); all_goals (intro hc; have hp := hc; first | (simp at hp; done) | ((try simp at hp); first | (exfalso; omega) | skip))) | (apply awp_cond_any; rfl))
  all_goals (apply fin_bool; rfl; rfl)
set_option maxHeartbeats 1600000 in
theorem a_rawO (a b : List Ent) (hla : a.length ≤ 1000000) (hlb : b.length ≤ 1000000) (hea : ∀ x, x ∈ a → x.small) (hsa : rising entLt a = true) (hsb : rising entLt b = true) :
    ACall C.P 38 [entAV a, entAV b] [] (.os 0 0 (rawD a b).length) [.own false 5 ((rawD a b).map Chg.row)] := by
  refine acall_intro Tryd.func38 rfl _ Tryd.ntmps38 (Nat.le_of_ble_eq_true rfl) _ Tryd.results38 0 rfl rfl ?_
  repeat' (first | refine walk ?_ | fail | ((first | (apply ops_split_t; rfl; rfl; exact nle rfl) | (apply ops_split_f; rfl; rfl; exact nle rfl) | (apply awp_cond; rfl)); all_goals (intro hc; have hp := hc; first | (simp at hp; done) | ((try simp at hp); first | (exfalso; omega) | skip))) | (apply awp_cond_any; rfl))
  refine Awp.red (red_nil 5 5 rfl (Nat.zero_le _)) ?_
  refine Awp.red (red_nil 6 1 rfl (Nat.zero_le _)) ?_
  (refine Awp.red (red_ren (τ := ⟨[(0, entAV a), (1, entAV b), (5, .os 0 0 0), (6, .os 1 0 0), (16, entAV a), (17, .v (.int .i64 a.length)), (18, .v (.int .i64 ((0 : Nat) : Int)))], [(0, .own false 5 []), (1, .own false 1 [])], 2⟩) [(0, 0), (1, 1)] rfl ?gts ?ghs) ?gmain; (case gts => (repeat (first | exact tsok_nil | refine p_pure ?_ | refine p_op ?_ | refine p_os ?_ | refine p_eq ?_ ?_)); all_goals (rw [List.length_map])); (case ghs => (repeat (first | exact hsok_nil | refine q_id ?_ | refine q_idx ?_ ?_))))
  refine awp_loop (fun n σ => ∃ i : Nat, i ≤ a.length ∧ n = a.length - i ∧ (∀ p, p ∈ gonesOf (a.take i) b → p.length ≤ 140737488355328) ∧ σ = ⟨[(0, entAV a), (1, entAV b), (5, .os 0 0 (gonesOf (a.take i) b).length), (6, .os 1 0 (gonesOf (a.take i) b).length), (16, entAV a), (17, .v (.int .i64 a.length)), (18, .v (.int .i64 (i : Int)))], [(0, .own false 5 ((gonesOf (a.take i) b).map fun p => (delChg p).row)), (1, .own false 1 ((gonesOf (a.take i) b).map strRow))], 2⟩) a.length ⟨0, Nat.zero_le _, rfl, (by simp [gonesOf]), rfl⟩ ?_
  rintro n σ ⟨i, hi, rfl, hsofar, rfl⟩
  have hgl := gones_len (a.take i) b
  have htl : (a.take i).length ≤ a.length := by simp; omega
  by_cases hlt : i < a.length
  · have hr := getRow (f := Ent.row) hlt
    have hsm := hea a[i] (List.getElem_mem _)
    have hgs := @gones_succ a b i hlt
    have hgg : goneStep b (gonesOf (a.take i) b) a[i] = if ((gonesOf (a.take i) b).any fun p => inB a[i].path p) = true then gonesOf (a.take i) b else if differs b a[i] = true then gonesOf (a.take i) b ++ [a[i].path] else gonesOf (a.take i) b := rfl
    rw [hgg] at hgs
    generalize gonesOf (a.take i) b = G at *
    have hcon := a_containsS (fun p => inB a[i].path p) 56 (isFn_of Tryd.func56 rfl rfl) [.fp [a[i].row] 0 0] rfl G (by omega) (fun p hp => a_rawC a[i] p (by have := hsofar p hp; omega))
    have hat := a_at b a[i].path (by omega) hsb
    have hdf : differs b a[i] = match b.find? (atP a[i].path) with | none => true | some y => decide (¬ y.fold = a[i].fold) := rfl
    have hng : ∀ p, p ∈ G ++ [a[i].path] → p.length ≤ 140737488355328 := fun p hp => by
      rcases List.mem_append.1 hp with hp | hp
      · exact hsofar p hp
      · rw [List.mem_singleton.1 hp]; exact hsm.1
    generalize differs b a[i] = D at *
    generalize (G.any fun p => inB a[i].path p) = A at *
    cases hh : hitE b a[i].path with
    | true =>
      obtain ⟨hk, hpe, hfi, -⟩ := hitE_at hsb hh
      rw [hh] at hat
      rw [hfi] at hdf
      have hrb := getRow (f := Ent.row) hk
      generalize posE b a[i].path = k at *
      repeat' (first | refine walk ?_ | (first | (refine o_fzl ?_) | (refine o_appo ?_) | (apply to_call Tryd.func53 rfl rfl; intro hIsFn; refine o_callp hIsFn (hat ..) ?_) | (apply opsx_val; apply ex_call ([1, 2]); exact isFn_of Tryd.func55 rfl rfl; exact hcon; (case hz => (refine rzl_cons (rz_os_pure rfl (by simp) (pures_map fun _ => rfl)) (rzl_cons (rz_clo rzl_nil (rzl_cons (rz_op rfl (by simp) (rzrows_pure (fun row hrow => by rw [List.mem_singleton.1 hrow]; rfl))) rzl_nil)) rzl_nil))); (case hfl => rfl); (case hN => exact nle rfl)) | (refine o_beq ?_)) | ((first | (apply ops_split_t; rfl; rfl; exact nle rfl) | (apply ops_split_f; rfl; rfl; exact nle rfl) | (apply awp_cond; rfl)); all_goals (intro hc; have hp := hc; first | (simp at hp; done) | ((try simp at hp); first | (exfalso; omega) | skip))) | (apply awp_cond_any; rfl))
      all_goals try (exfalso; omega)
      all_goals first
        | (have hg2 : gonesOf (a.take (i + 1)) b = G := (by rw [hgs]; simp_all); refine ⟨a.length - (i + 1), _, by omega, red_ren (τ := ⟨[(0, entAV a), (1, entAV b), (5, .os 0 0 (gonesOf (a.take (i + 1)) b).length), (6, .os 1 0 (gonesOf (a.take (i + 1)) b).length), (16, entAV a), (17, .v (.int .i64 a.length)), (18, .v (.int .i64 ((i + 1 : Nat) : Int)))], [(0, .own false 5 ((gonesOf (a.take (i + 1)) b).map fun p => (delChg p).row)), (1, .own false 1 ((gonesOf (a.take (i + 1)) b).map strRow))], 2⟩) [(0, 0), (1, 1)] rfl ?gts ?ghs, i + 1, by omega, rfl, (by rw [hg2]; exact hsofar), rfl⟩; (case gts => (repeat (first | exact tsok_nil | refine p_pure ?_ | refine p_op ?_ | refine p_os ?_ | refine p_eq ?_ ?_)); all_goals (rw [hg2])); (case ghs => (repeat (first | exact hsok_nil | refine q_id ?_ | refine q_idx ?_ ?_)); all_goals (rw [hg2])))
        | (have hg2 : gonesOf (a.take (i + 1)) b = G ++ [a[i].path] := (by rw [hgs]; simp_all); refine ⟨a.length - (i + 1), _, by omega, red_ren (τ := ⟨[(0, entAV a), (1, entAV b), (5, .os 0 0 (gonesOf (a.take (i + 1)) b).length), (6, .os 1 0 (gonesOf (a.take (i + 1)) b).length), (16, entAV a), (17, .v (.int .i64 a.length)), (18, .v (.int .i64 ((i + 1 : Nat) : Int)))], [(0, .own false 5 ((gonesOf (a.take (i + 1)) b).map fun p => (delChg p).row)), (1, .own false 1 ((gonesOf (a.take (i + 1)) b).map strRow))], 2⟩) [(3, 0), (4, 1)] rfl ?gts ?ghs, i + 1, by omega, rfl, (by rw [hg2]; exact hng), rfl⟩; (case gts => (repeat (first | exact tsok_nil | refine p_pure ?_ | refine p_op ?_ | refine p_os ?_ | refine p_eq ?_ ?_)); all_goals (rw [hg2]; first | (rw [List.take_of_length_le (by simp), List.map_append]; rfl) | (simp; done))); (case ghs => (repeat (first | exact hsok_nil | refine q_id ?_ | refine q_idx ?_ ?_)); all_goals (rw [hg2]; first | (rw [List.take_of_length_le (by simp), List.map_append]; rfl) | (simp; done))))
    | false =>
      rw [hh] at hat
      rw [(hitE_none hh).1] at hdf
      repeat' (first | refine walk ?_ | (first | (refine o_fzl ?_) | (refine o_appo ?_) | (apply to_call Tryd.func53 rfl rfl; intro hIsFn; refine o_callp hIsFn (hat ..) ?_) | (apply opsx_val; apply ex_call ([1, 2]); exact isFn_of Tryd.func55 rfl rfl; exact hcon; (case hz => (refine rzl_cons (rz_os_pure rfl (by simp) (pures_map fun _ => rfl)) (rzl_cons (rz_clo rzl_nil (rzl_cons (rz_op rfl (by simp) (rzrows_pure (fun row hrow => by rw [List.mem_singleton.1 hrow]; rfl))) rzl_nil)) rzl_nil))); (case hfl => rfl); (case hN => exact nle rfl)) | (refine o_beq ?_)) | ((first | (apply ops_split_t; rfl; rfl; exact nle rfl) | (apply ops_split_f; rfl; rfl; exact nle rfl) | (apply awp_cond; rfl)); all_goals (intro hc; have hp := hc; first | (simp at hp; done) | ((try simp at hp); first | (exfalso; omega) | skip))) | (apply awp_cond_any; rfl))
      all_goals try (exfalso; omega)
      all_goals first
        | (have hg2 : gonesOf (a.take (i + 1)) b = G := (by rw [hgs]; simp_all); refine ⟨a.length - (i + 1), _, by omega, red_ren (τ := ⟨[(0, entAV a), (1, entAV b), (5, .os 0 0 (gonesOf (a.take (i + 1)) b).length), (6, .os 1 0 (gonesOf (a.take (i + 1)) b).length), (16, entAV a), (17, .v (.int .i64 a.length)), (18, .v (.int .i64 ((i + 1 : Nat) : Int)))], [(0, .own false 5 ((gonesOf (a.take (i + 1)) b).map fun p => (delChg p).row)), (1, .own false 1 ((gonesOf (a.take (i + 1)) b).map strRow))], 2⟩) [(0, 0), (1, 1)] rfl ?gts ?ghs, i + 1, by omega, rfl, (by rw [hg2]; exact hsofar), rfl⟩; (case gts => (repeat (first | exact tsok_nil | refine p_pure ?_ | refine p_op ?_ | refine p_os ?_ | refine p_eq ?_ ?_)); all_goals (rw [hg2])); (case ghs => (repeat (first | exact hsok_nil | refine q_id ?_ | refine q_idx ?_ ?_)); all_goals (rw [hg2])))
        | (have hg2 : gonesOf (a.take (i + 1)) b = G ++ [a[i].path] := (by rw [hgs]; simp_all); refine ⟨a.length - (i + 1), _, by omega, red_ren (τ := ⟨[(0, entAV a), (1, entAV b), (5, .os 0 0 (gonesOf (a.take (i + 1)) b).length), (6, .os 1 0 (gonesOf (a.take (i + 1)) b).length), (16, entAV a), (17, .v (.int .i64 a.length)), (18, .v (.int .i64 ((i + 1 : Nat) : Int)))], [(0, .own false 5 ((gonesOf (a.take (i + 1)) b).map fun p => (delChg p).row)), (1, .own false 1 ((gonesOf (a.take (i + 1)) b).map strRow))], 2⟩) [(3, 0), (4, 1)] rfl ?gts ?ghs, i + 1, by omega, rfl, (by rw [hg2]; exact hng), rfl⟩; (case gts => (repeat (first | exact tsok_nil | refine p_pure ?_ | refine p_op ?_ | refine p_os ?_ | refine p_eq ?_ ?_)); all_goals (rw [hg2]; first | (rw [List.take_of_length_le (by simp), List.map_append]; rfl) | (simp; done))); (case ghs => (repeat (first | exact hsok_nil | refine q_id ?_ | refine q_idx ?_ ?_)); all_goals (rw [hg2]; first | (rw [List.take_of_length_le (by simp), List.map_append]; rfl) | (simp; done))))
  obtain rfl : i = a.length := by omega
  rw [List.take_length] at *
  repeat' (first | refine walk ?_ | fail | ((first | (apply ops_split_t; rfl; rfl; exact nle rfl) | (apply ops_split_f; rfl; rfl; exact nle rfl) | (apply awp_cond; rfl)); all_goals (intro hc; have hp := hc; first | (simp at hp; done) | ((try simp at hp); first | (exfalso; omega) | skip))) | (apply awp_cond_any; rfl))
  all_goals try (exfalso; omega)
  have hR0 : (gonesOf a b).map (fun p => (delChg p).row) = (rawTo a b 0).map Chg.row := by simp [rawTo]
  have hL0 : (gonesOf a b).length = (rawTo a b 0).length := by simp [rawTo]
  rw [hR0, hL0]
  (refine Awp.red (red_ren (τ := ⟨[(0, entAV a), (5, .os 0 0 (rawTo a b 0).length), (56, entAV b), (57, .v (.int .i64 b.length)), (58, .v (.int .i64 ((0 : Nat) : Int)))], [(0, .own false 5 ((rawTo a b 0).map Chg.row))], 1⟩) [(0, 0)] rfl ?gts2 ?ghs2) ?gmain2; (case gts2 => (repeat (first | exact tsok_nil | refine p_pure ?_ | refine p_op ?_ | refine p_os ?_ | refine p_eq ?_ ?_)); all_goals (rw [List.length_map])); (case ghs2 => (repeat (first | exact hsok_nil | refine q_id ?_ | refine q_idx ?_ ?_))))
  refine awp_loop (fun n σ => ∃ i : Nat, i ≤ b.length ∧ n = b.length - i ∧ (True) ∧ σ = ⟨[(0, entAV a), (5, .os 0 0 (rawTo a b i).length), (56, entAV b), (57, .v (.int .i64 b.length)), (58, .v (.int .i64 (i : Int)))], [(0, .own false 5 ((rawTo a b i).map Chg.row))], 1⟩) b.length ⟨0, Nat.zero_le _, rfl, trivial, rfl⟩ ?_
  rintro n σ ⟨i, hi, rfl, -, rfl⟩
  have hgl : (rawTo a b i).length ≤ 2000000 := by
    have h1 := gones_len a b
    have h2 : ((b.take i).filter fun x => !stays a x).length ≤ (b.take i).length := List.length_filter_le ..
    have h3 : (b.take i).length ≤ b.length := by simp; omega
    simp only [rawTo, List.length_append, List.length_map]; omega
  by_cases hlt : i < b.length
  · have hr := getRow (f := Ent.row) hlt
    have hgs := @raw_succ a b i hlt
    have hmk1 : b[i].fold = true → (mkChg b[i]).row = [.v (.int .i64 1), .v (str b[i].path), .v (str []), .v (str b[i].text), .v (.int .i64 (-1))] := fun h => by simp [mkChg, Chg.row, h]
    have hmk2 : b[i].fold = false → (mkChg b[i]).row = [.v (.int .i64 2), .v (str b[i].path), .v (str []), .v (str b[i].text), .v (.int .i64 (-1))] := fun h => by simp [mkChg, Chg.row, h]
    have hat := a_at a b[i].path (by omega) hsa
    have hst : stays a b[i] = match a.find? (atP b[i].path) with | some y => likeE y b[i] | none => false := rfl
    generalize rawTo a b i = G at *
    cases hh : hitE a b[i].path with
    | true =>
      obtain ⟨hk, hpe, hfi, -⟩ := hitE_at hsa hh
      rw [hh] at hat
      rw [hfi] at hst
      have hra := getRow (f := Ent.row) hk
      generalize posE a b[i].path = k at *
      have hlk := a_like a[k] b[i]
      have hst2 : stays a b[i] = likeE a[k] b[i] := hst
      obtain ⟨LK, hLK⟩ : ∃ LK, likeE a[k] b[i] = LK := ⟨_, rfl⟩
      rw [hLK] at hst2 hlk
      rw [hst2] at hgs
      clear hst hfi hh hsofar
      repeat' (first | refine walk ?_ | (first | (refine o_fzl ?_) | (refine o_appo ?_) | (apply to_call Tryd.func53 rfl rfl; intro hIsFn; refine o_callp hIsFn (hat ..) ?_) | (apply to_call Tryd.func40 rfl rfl; intro hIsFn; refine o_callf hIsFn (hlk ..) ?_; skip)) | ((first | (apply ops_split_t; rfl; rfl; exact nle rfl) | (apply ops_split_f; rfl; rfl; exact nle rfl) | (apply awp_cond; rfl)); all_goals (intro hc; have hp := hc; first | (simp at hp; done) | ((try simp at hp); first | (exfalso; omega) | skip))) | (apply awp_cond_any; rfl))
      all_goals try (exfalso; omega)
      all_goals first
        | (have hg2 : rawTo a b (i + 1) = G := (by rw [hgs, if_pos (by assumption)]); refine ⟨b.length - (i + 1), _, by omega, red_ren (τ := ⟨[(0, entAV a), (5, .os 0 0 (rawTo a b (i + 1)).length), (56, entAV b), (57, .v (.int .i64 b.length)), (58, .v (.int .i64 ((i + 1 : Nat) : Int)))], [(0, .own false 5 ((rawTo a b (i + 1)).map Chg.row))], 1⟩) [(0, 0)] rfl ?gts ?ghs, i + 1, by omega, rfl, trivial, rfl⟩; (case gts => (repeat (first | exact tsok_nil | refine p_pure ?_ | refine p_op ?_ | refine p_os ?_ | refine p_eq ?_ ?_)); all_goals (rw [hg2])); (case ghs => (repeat (first | exact hsok_nil | refine q_id ?_ | refine q_idx ?_ ?_)); all_goals (rw [hg2])))
        | (have hg2 : rawTo a b (i + 1) = G ++ [mkChg b[i]] := (by rw [hgs, if_neg (Bool.eq_false_iff.1 (by assumption))]); refine ⟨b.length - (i + 1), _, by omega, red_ren (τ := ⟨[(0, entAV a), (5, .os 0 0 (rawTo a b (i + 1)).length), (56, entAV b), (57, .v (.int .i64 b.length)), (58, .v (.int .i64 ((i + 1 : Nat) : Int)))], [(0, .own false 5 ((rawTo a b (i + 1)).map Chg.row))], 1⟩) [(3, 0)] rfl ?gts ?ghs, i + 1, by omega, rfl, trivial, rfl⟩; (case gts => (repeat (first | exact tsok_nil | refine p_pure ?_ | refine p_op ?_ | refine p_os ?_ | refine p_eq ?_ ?_)); all_goals (rw [hg2]; first | (rw [List.take_of_length_le (by simp), List.map_append]; show _ = _ ++ [(mkChg b[i]).row]; first | (rw [hmk1 (by assumption)]; rfl) | (rw [hmk2 (by assumption)]; rfl)) | (simp; done))); (case ghs => (repeat (first | exact hsok_nil | refine q_id ?_ | refine q_idx ?_ ?_)); all_goals (rw [hg2]; first | (rw [List.take_of_length_le (by simp), List.map_append]; show _ = _ ++ [(mkChg b[i]).row]; first | (rw [hmk1 (by assumption)]; rfl) | (rw [hmk2 (by assumption)]; rfl)) | (simp; done))))
    | false =>
      rw [hh] at hat
      rw [(hitE_none hh).1] at hst
      have hst : stays a b[i] = false := hst
      clear hh hsofar
      repeat' (first | refine walk ?_ | (first | (refine o_fzl ?_) | (refine o_appo ?_) | (apply to_call Tryd.func53 rfl rfl; intro hIsFn; refine o_callp hIsFn (hat ..) ?_)) | ((first | (apply ops_split_t; rfl; rfl; exact nle rfl) | (apply ops_split_f; rfl; rfl; exact nle rfl) | (apply awp_cond; rfl)); all_goals (intro hc; have hp := hc; first | (simp at hp; done) | ((try simp at hp); first | (exfalso; omega) | skip))) | (apply awp_cond_any; rfl))
      all_goals try (exfalso; omega)
      all_goals (have hg2 : rawTo a b (i + 1) = G ++ [mkChg b[i]] := (by rw [hgs, if_neg (Bool.eq_false_iff.1 (by assumption))]); refine ⟨b.length - (i + 1), _, by omega, red_ren (τ := ⟨[(0, entAV a), (5, .os 0 0 (rawTo a b (i + 1)).length), (56, entAV b), (57, .v (.int .i64 b.length)), (58, .v (.int .i64 ((i + 1 : Nat) : Int)))], [(0, .own false 5 ((rawTo a b (i + 1)).map Chg.row))], 1⟩) [(3, 0)] rfl ?gts ?ghs, i + 1, by omega, rfl, trivial, rfl⟩; (case gts => (repeat (first | exact tsok_nil | refine p_pure ?_ | refine p_op ?_ | refine p_os ?_ | refine p_eq ?_ ?_)); all_goals (rw [hg2]; first | (rw [List.take_of_length_le (by simp), List.map_append]; show _ = _ ++ [(mkChg b[i]).row]; first | (rw [hmk1 (by assumption)]; rfl) | (rw [hmk2 (by assumption)]; rfl)) | (simp; done))); (case ghs => (repeat (first | exact hsok_nil | refine q_id ?_ | refine q_idx ?_ ?_)); all_goals (rw [hg2]; first | (rw [List.take_of_length_le (by simp), List.map_append]; show _ = _ ++ [(mkChg b[i]).row]; first | (rw [hmk1 (by assumption)]; rfl) | (rw [hmk2 (by assumption)]; rfl)) | (simp; done))))
  obtain rfl : i = b.length := by omega
  repeat' (first | refine walk ?_ | fail | ((first | (apply ops_split_t; rfl; rfl; exact nle rfl) | (apply ops_split_f; rfl; rfl; exact nle rfl) | (apply awp_cond; rfl)); all_goals (intro hc; have hp := hc; first | (simp at hp; done) | ((try simp at hp); first | (exfalso; omega) | skip))) | (apply awp_cond_any; rfl))
  all_goals try (exfalso; omega)
  have hall : rawTo a b b.length = rawD a b := by simp [rawTo, rawD]
  rw [hall]
  (apply fin_ownr (rs := [.tmp 4]) [(0, 0)] 1; (case hr => (repeat (first | exact resok_nil | (apply resok_tmp; rfl) | (apply resok_cell; rfl; rfl; rfl; rfl; rfl)))); (case hL => rfl); (case hh => (repeat (first | exact hsok_nil | refine q_id ?_ | refine q_idx ?_ ?_)); all_goals trace_state); (case hi => first | exact (rfl : _ = ([] : List (Nat × Nat))) | exact (rfl : _ = [((0 : Nat), (0 : Nat))]) | exact (rfl : _ = [((0 : Nat), (0 : Nat)), (1, 1)])); (case hz => first | rfl | (simp [pack, AV.ren, AV.ren.renL, lookN, getT, enumT]; done) | (simp [pack, AV.ren, AV.ren.renL, lookN, getT, enumT, *]; done) | trace_state))
theorem a_raw (a b : List Ent) (hla : a.length ≤ 1000000) (hlb : b.length ≤ 1000000) (hea : ∀ x, x ∈ a → x.small) (hsa : rising entLt a = true) (hsb : rising entLt b = true) :
    AFn C.P 38 [entAV a, entAV b] (chgAV (rawD a b)) :=
  afn_of_own (a_rawO a b hla hlb hea hsa hsb) (rz_os_pure rfl (by simp) (pures_map fun _ => rfl))
end Go.Proofs.YtpeenheeakhlgaaDoor

/- Deltas in the abstract layer, 3: Diff; what must be in any case. -/
set_option linter.unusedSimpArgs false
set_option linter.unnecessarySimpa false
set_option linter.unusedVariables false
set_option maxHeartbeats 1000000
namespace Go.Proofs.YtpeenheeakhlgaaDoor
open Go.Ab Go.RowKit
set_option maxRecDepth 10000
attribute [local irreducible] Awp Ops OpsX Wanted Red ExOk Go.Ab.Fin ACall Rz RzL RzRows Enters ResOk RenV RenVL ArgV ArgVL

theorem treeErr_iff0 {t : List Ent} : treeErr t = 0 ↔ t.length ≤ 60 ∧ (∀ x, x ∈ t → entErr x = 0) ∧ rising entLt t = true ∧ ∀ x, x ∈ t → parErr t x = 0 := by
  unfold treeErr
  constructor
  · intro h
    split at h
    · exact absurd h (by decide)
    split at h
    case isFalse h' => exact absurd h h'
    rename_i h1 h2
    split at h
    case isFalse => exact absurd h (by decide)
    rename_i h3
    split at h
    case isTrue => exact absurd h (by decide)
    split at h
    case isTrue => exact absurd h (by decide)
    rename_i h4 h5
    refine ⟨by omega, firstErr_zero.1 h2, h3, fun x hx => ?_⟩
    cases e : decide (parErr t x = 0)
    · exact absurd (List.any_eq_true.2 ⟨x, hx, by simpa using e⟩) h5
    · simpa using e
  · rintro ⟨h1, h2, h3, h4⟩
    rw [if_neg (by omega), if_pos (firstErr_zero.2 h2), if_pos h3, if_neg, if_neg]
    · intro h
      obtain ⟨x, hx, hk⟩ := List.any_eq_true.1 h
      simp [h4 x hx] at hk
    · intro h
      obtain ⟨x, hx, hk⟩ := List.any_eq_true.1 h
      simp [h4 x hx] at hk
theorem twoErr_zero {a b : List Ent} : twoErr a b = 0 ↔ treeErr a = 0 ∧ treeErr b = 0 := by
  rw [twoErr_eq]
  by_cases h : treeErr a = 0 <;> simp [h]
def diffL (a b : List Ent) : List Chg := if twoErr a b = 0 then rawD a b else []
theorem a_diff (a b : List Ent) (ha : EBig a) (hb : EBig b) : AFn C.P 14 [entAV a, entAV b] (.tup [chgAV (diffL a b), .v (.int .i64 (twoErr a b))]) := by
  have h1 := a_dcheck a b ha hb
  by_cases h : twoErr a b = 0
  · obtain ⟨ta, tb⟩ := twoErr_zero.1 h
    obtain ⟨la, -, ra, -⟩ := treeErr_iff0.1 ta
    obtain ⟨lb, -, rb, -⟩ := treeErr_iff0.1 tb
    have h2 := a_raw a b (by omega) (by omega) ha.each ra rb
    rw [show diffL a b = rawD a b from if_pos h, h]
    rw [h] at h1
    refine acall_intro Tryd.func14 rfl _ Tryd.ntmps14 (Nat.le_of_ble_eq_true rfl) _ Tryd.results14 0 rfl rfl ?_
    repeat' (first | refine walk ?_ | (first | (apply to_call Tryd.func37 rfl rfl; intro hIsFn; refine o_callf hIsFn (h1 ..) ?_; skip) | (apply to_call Tryd.func38 rfl rfl; intro hIsFn; refine o_callp hIsFn (h2 ..) ?_)) | ((first | (apply awp_cond; rfl)); all_goals (intro hc; have hp := hc; first | (simp at hp; done) | ((try simp at hp); first | (exfalso; omega) | skip))) | (apply awp_cond_any; rfl))
    all_goals try (exfalso; omega)
    (refine f_pure (rs := [.tmp 4, .tmp 5]) ?_; (repeat' (first | exact rzl_nil | apply rzl_cons | exact rz_pure rfl | exact rz_ex | exact z_os | apply rz_agg | apply rz_tup | apply rz_clo | apply rz_int | apply rz_bool | apply rz_str | refine z_eq ?_ | apply rz_sl)); all_goals trace_state)
  · rw [show diffL a b = [] from if_neg h]
    generalize twoErr a b = E at *
    refine acall_intro Tryd.func14 rfl _ Tryd.ntmps14 (Nat.le_of_ble_eq_true rfl) _ Tryd.results14 0 rfl rfl ?_
    repeat' (first | refine walk ?_ | (first | (apply to_call Tryd.func37 rfl rfl; intro hIsFn; refine o_callf hIsFn (h1 ..) ?_; skip)) | ((first | (apply awp_cond; rfl)); all_goals (intro hc; have hp := hc; first | (simp at hp; done) | ((try simp at hp); first | (exfalso; omega) | skip))) | (apply awp_cond_any; rfl))
    all_goals try (exfalso; omega)
    (refine f_pure (rs := [.tmp 4, .tmp 5]) ?_; (repeat' (first | exact rzl_nil | apply rzl_cons | exact rz_pure rfl | exact rz_ex | exact z_os | apply rz_agg | apply rz_tup | apply rz_clo | apply rz_int | apply rz_bool | apply rz_str | refine z_eq ?_ | apply rz_sl)); all_goals trace_state)
def eA : Ent := ⟨[97], false, [120], 1⟩
theorem a_dbegun : AFn C.P 17 [] (.v (.bool true)) := by
  have h1 := a_diff [] [eA] ⟨fun e h => by simp at h, by simp⟩ ⟨fun e h => by rw [List.mem_singleton.1 h]; exact ⟨by decide, by decide⟩, by simp⟩
  rw [show twoErr [] [eA] = 0 from by decide +kernel, show diffL [] [eA] = [⟨2, [97], [], [120], -1⟩] from by decide +kernel] at h1
  have h2 : AFn C.P 14 [.sl false [], .sl false [[.v (str [97]), .v (.bool false), .v (str [120]), .v (.int .i64 1)]]] (.tup [.sl false [[.v (.int .i64 2), .v (str [97]), .v (str []), .v (str [120]), .v (.int .i64 (-1))]], .v (.int .i64 0)]) := h1
  refine acall_intro Tryd.func17 rfl _ Tryd.ntmps17 (Nat.le_of_ble_eq_true rfl) _ Tryd.results17 0 rfl rfl ?_
  repeat' (first | refine walk ?_ | (first | (refine o_fzl ?_) | (apply to_call Tryd.func14 rfl rfl; intro hIsFn; refine o_callp hIsFn (h2 ..) ?_)) | ((first | (apply ops_split_t; rfl; rfl; exact nle rfl) | (apply ops_split_f; rfl; rfl; exact nle rfl) | (apply awp_cond; rfl)); all_goals (intro hc; have hp := hc; first | (simp at hp; done) | ((try simp at hp); first | (exfalso; omega) | skip))) | (apply awp_cond_any; rfl))
  all_goals try (exfalso; simp_all; done)
  all_goals (apply fin_bool; rfl; simp; done)
end Go.Proofs.YtpeenheeakhlgaaDoor

/- Deltas: the reference's DiffOf, plain. -/
set_option linter.unusedSimpArgs false
set_option linter.unnecessarySimpa false
set_option linter.unusedVariables false
namespace Go.Proofs.YtpeenheeakhlgaaDoor
open Go.Op

/-- What is left of a tree behind deletions. -/
def leftOf (a : List Ent) (g : List Str) : List Ent := a.filter fun x => !(g.any fun p => inB x.path p)
theorem left_nil (a : List Ent) : leftOf a [] = a := by simp [leftOf]
theorem left_snoc (a : List Ent) (g : List Str) (q : Str) : leftOf a (g ++ [q]) = keepE (inP q) (leftOf a g) := by
  unfold leftOf keepE inP
  rw [List.filter_filter]
  congr 1
  funext x
  simp [Bool.and_comm]
theorem left_rising {a : List Ent} {g : List Str} (h : rising entLt a = true) : rising entLt (leftOf a g) = true := rising_pairE.2 ((rising_pairE.1 h).sublist List.filter_sublist)
theorem left_len (a : List Ent) (g : List Str) : (leftOf a g).length ≤ a.length := List.length_filter_le ..
theorem left_mem {a : List Ent} {g : List Str} {x : Ent} (h : x ∈ leftOf a g) : x ∈ a := (List.mem_filter.1 h).1
theorem look_left (a : List Ent) (g : List Str) (p : Str) : look (leftOf a g) p = if (g.any fun q => inB p q) = true then none else look a p := by
  split
  · rename_i h
    rw [look_none]
    intro x hx
    have := (List.mem_filter.1 hx).2
    intro e
    rw [e, h] at this
    exact absurd this (by decide)
  · rename_i h
    unfold look leftOf
    rw [List.find?_filter]
    congr 1
    funext x
    by_cases hx : x.path = p
    · have h : (g.any fun q => inB p q) = false := by simpa using h
      simp [atP, hx, h]
    · simp [atP, hx]
theorem not_nil' {t : List Ent} (h : Right t) {q : Str} {y : Ent} (hy : look t q = some y) : ¬ q = [] := fun e => by
  obtain ⟨h6, h7⟩ := look_some hy
  have := (entErr_zero (h.ent y h6)).1
  rw [h7, e] at this
  exact right_names this [] (by simp [namesOf]) rfl
theorem del_ok {a : List Ent} (h : Right a) {g : List Str} {x : Ent} (hx : x ∈ a) (hg : (g.any fun q => inB x.path q) = false) : rawE (leftOf a g) (delChg x.path) 1 = 0 ∧ rawL (leftOf a g) (delChg x.path) 1 = leftOf a (g ++ [x.path]) := by
  have hxe := entErr_zero (h.ent x hx)
  have hpe := hxe.1
  have hce : chgErr (delChg x.path) = 0 := by
    unfold chgErr chgRest delChg
    simp only
    rw [if_neg (by omega), if_neg (by simp [hpe]), if_neg (fun e => by exact absurd e.1 (by decide)), if_neg (by simp), if_neg (by simp), if_neg (by omega)]
  have hD : doneL (leftOf a g) (delChg x.path) 1 = leftOf a (g ++ [x.path]) := by
    rw [left_snoc]
    simp [doneL, delChg]
  have hl : look (leftOf a g) x.path = some x := by rw [look_left, hg, if_neg (by decide)]; exact look_mem h.rise hx
  have hpf : folderErr (leftOf a g) (parentOf x.path) = 0 := by
    rcases folder_zero.1 (h.par x hx) with h2 | ⟨y, h2, h3⟩
    · exact folder_zero.2 (.inl h2)
    · have hpi := par_in hpe (not_nil' h h2)
      refine folder_zero.2 (.inr ⟨y, ?_, h3⟩)
      rw [look_left, if_neg]
      · exact h2
      · intro h5
        obtain ⟨q, hq, hq2⟩ := List.any_eq_true.1 h5
        rw [List.any_eq_false] at hg
        exact hg q hq (inB_trans hpi hq2)
  have hmay : mayErr (leftOf a g) (delChg x.path) = 0 := by
    unfold mayErr
    have h0 : folderErr (leftOf a g) (parentOf (goalOf (delChg x.path))) = 0 := hpf
    rw [if_neg (by simp [h0])]
    have h1 : isErr (leftOf a g) (delChg x.path) = 0 := by
      show (if hitE (leftOf a g) x.path = true then (0 : Int) else 5) = 0
      rw [look_hit, hl]; rfl
    have h2 : mvErr (leftOf a g) (delChg x.path) = 0 := rfl
    have h3 : staleErr (leftOf a g) (delChg x.path) = 0 := by
      unfold staleErr
      rw [if_neg]; simp [delChg]
    rw [if_neg (by simp [h1]), if_neg (by simp [h2]), h3]
  have hdn : doneE (leftOf a g) (delChg x.path) 1 = 0 := by
    unfold doneE
    rw [show moveBad (leftOf a g) (delChg x.path) = false from rfl, if_neg (by decide), hD, if_neg]
    have := left_len a (g ++ [x.path])
    have := h.len
    omega
  have hr : rawE (leftOf a g) (delChg x.path) 1 = 0 := by
    unfold rawE
    rw [if_neg (by simp [hce]), if_neg (by simp [hmay]), hdn]
  exact ⟨hr, by unfold rawL; rw [if_pos hr, hD]⟩
theorem gones_sub (b : List Ent) : ∀ (l : List Ent) (g : List Str) (p : Str), p ∈ l.foldl (goneStep b) g → p ∈ g ∨ ∃ z, z ∈ l ∧ z.path = p ∧ differs b z = true
  | [], g, p, h => .inl h
  | x :: l, g, p, h => by
    rcases gones_sub b l _ p h with h1 | ⟨z, h1, h2⟩
    · unfold goneStep at h1
      split at h1
      · exact .inl h1
      · split at h1
        · rename_i hd
          rcases List.mem_append.1 h1 with h1 | h1
          · exact .inl h1
          · exact .inr ⟨x, by simp, (List.mem_singleton.1 h1).symm, hd⟩
        · exact .inl h1
    · exact .inr ⟨z, by simp [h1], h2⟩
theorem gones_keep (b : List Ent) : ∀ (l : List Ent) (g : List Str) (p : Str), p ∈ g → p ∈ l.foldl (goneStep b) g
  | [], g, p, h => h
  | x :: l, g, p, h => gones_keep b l _ p (by
    unfold goneStep
    split
    · exact h
    · split
      · exact List.mem_append_left _ h
      · exact h)
theorem gones_all (b : List Ent) : ∀ (l : List Ent) (g : List Str) (z : Ent), z ∈ l → differs b z = true → ∃ p, p ∈ l.foldl (goneStep b) g ∧ inB z.path p = true
  | x :: l, g, z, hz, hd => by
    rcases List.mem_cons.1 hz with rfl | hz
    · by_cases h1 : (g.any fun p => inB z.path p) = true
      · obtain ⟨p, hp, hp2⟩ := List.any_eq_true.1 h1
        refine ⟨p, gones_keep b l _ p ?_, hp2⟩
        unfold goneStep; rw [if_pos h1]; exact hp
      · refine ⟨z.path, gones_keep b l _ z.path ?_, inB_refl _⟩
        unfold goneStep; rw [if_neg h1, if_pos hd]; simp
    · exact gones_all b l _ z hz hd
theorem stays_left {a b : List Ent} (ha : Right a) (hb : Right b) {x : Ent} (hx : x ∈ b) :
    (match look (leftOf a (gonesOf a b)) x.path with | some y => x.fold || decide (y.text = x.text) | none => false) = stays a x := by
  have hbx := look_mem hb.rise hx
  have hst : stays a x = match look a x.path with | some y => likeE y x | none => false := rfl
  rw [hst, look_left]
  cases hl : look a x.path with
  | none => simp
  | some y =>
    obtain ⟨hy, hyp⟩ := look_some hl
    have hdf : differs b y = decide (¬ x.fold = y.fold) := by
      unfold differs
      rw [hyp, show b.find? (atP x.path) = some x from hbx]
    by_cases hf : x.fold = y.fold
    · have hno : ((gonesOf a b).any fun q => inB x.path q) = false := by
        rw [List.any_eq_false]
        intro p hp hip
        rcases gones_sub b a [] p hp with h0 | ⟨z, hz, hzp, hzd⟩
        · cases h0
        · by_cases e : p = x.path
          · have : z = y := path_inj ha.rise hz hy (by rw [hzp, e, hyp])
            rw [this, hdf] at hzd
            simp [hf] at hzd
          · obtain ⟨w1, h1, h2⟩ := anc ha _ y hy rfl p (by rw [hyp]; exact hip) (by rw [hyp]; exact e)
            obtain ⟨w2, h3, h4⟩ := anc hb _ x hx rfl p hip e
            obtain ⟨h5, h6⟩ := look_some h1
            have : z = w1 := path_inj ha.rise hz h5 (by rw [hzp, h6])
            unfold differs at hzd
            rw [hzp, show b.find? (atP p) = some w2 from h3, this, h2] at hzd
            simp [h4] at hzd
      rw [hno, if_neg (by decide)]
      have hex := entErr_zero (hb.ent x hx)
      have hey := entErr_zero (ha.ent y hy)
      simp only [likeE, hyp, hf, decide_true, Bool.true_and]
      cases hyf : y.fold with
      | false => simp
      | true =>
        have t1 : x.text = [] := by
          cases h : x.text with
          | nil => rfl
          | cons c s => exact absurd ⟨by rw [hf, hyf], by simp [h]⟩ hex.2.1
        have t2 : y.text = [] := by
          cases h : y.text with
          | nil => rfl
          | cons c s => exact absurd ⟨hyf, by simp [h]⟩ hey.2.1
        simp [t1, t2]
    · have hd : differs b y = true := by rw [hdf]; simp [hf]
      obtain ⟨p, hp, hp2⟩ := gones_all b a [] y hy hd
      rw [hyp] at hp2
      have : ((gonesOf a b).any fun q => inB x.path q) = true := List.any_eq_true.2 ⟨p, hp, hp2⟩
      rw [this, if_pos rfl]
      have hf2 : ¬ y.fold = x.fold := fun e => hf e.symm
      simp [likeE, hf2]
end Go.Proofs.YtpeenheeakhlgaaDoor
