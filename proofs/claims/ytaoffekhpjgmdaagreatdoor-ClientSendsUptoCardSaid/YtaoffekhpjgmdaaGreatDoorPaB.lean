import Derived.Test.YtaoffekhpjgmdaaGreatDoorPaA
/- Paths in the abstract layer, 8: the reference's NamesOf, TooGreat, CheckPath, CheckPaths. -/
set_option linter.unusedSimpArgs false
set_option linter.unnecessarySimpa false
set_option maxHeartbeats 1000000
namespace Go.Proofs.YtaoffekhpjgmdaaGreatDoor
open Go.Ab Go.RowKit
set_option maxRecDepth 10000
attribute [local irreducible] Awp Ops OpsX Wanted Red ExOk Go.Ab.Fin ACall Rz RzL RzRows Enters ResOk RenV RenVL ArgV ArgVL

def fromN (p : Str) (i : Nat) : Nat := i - (lastOf (p.take i)).length
def nsL (p : Str) (i : Nat) : List Str := (namesOf (p.take i)).dropLast
@[simp] theorem nsL_zero (p : Str) : nsL p 0 = [] := rfl
@[simp] theorem fromN_zero (p : Str) : fromN p 0 = 0 := rfl
@[simp] theorem cellsOf_str (s : Str) : cellsOf (AV.v (str s)) = [AV.v (str s)] := rfl
theorem last_eq {s : Str} {X : List Str} {y : Str} (h : namesOf s = X ++ [y]) : (namesOf s).dropLast = X ∧ lastOf s = y := by
  have h1 := (split_ref s).1
  rw [h, List.dropLast_concat] at h1
  refine ⟨by rw [h, List.dropLast_concat], ?_⟩
  have := List.append_cancel_left h1
  simpa using this.symm
theorem step_slash {p : Str} {i : Nat} (h : i < p.length) (hc : p[i] = 47) : nsL p (i + 1) = nsL p i ++ [lastOf (p.take i)] ∧ fromN p (i + 1) = i + 1 := by
  have e : p.take (i + 1) = p.take i ++ [47] := by rw [List.take_succ_eq_append_getElem h, hc]
  obtain ⟨h1, h2⟩ := last_eq (namesOf_slash (p.take i))
  refine ⟨?_, ?_⟩
  · show (namesOf (p.take (i + 1))).dropLast = _
    rw [e, h1]; exact (split_ref (p.take i)).1
  · show i + 1 - (lastOf (p.take (i + 1))).length = _
    rw [e, h2]; rfl
theorem step_other {p : Str} {i : Nat} (h : i < p.length) (hc : ¬ p[i] = 47) : nsL p (i + 1) = nsL p i ∧ fromN p (i + 1) = fromN p i := by
  have e : p.take (i + 1) = p.take i ++ [p[i]] := List.take_succ_eq_append_getElem h
  obtain ⟨h1, h2⟩ := last_eq (namesOf_snoc hc (p.take i))
  refine ⟨?_, ?_⟩
  · show (namesOf (p.take (i + 1))).dropLast = _
    rw [e, h1]; rfl
  · show i + 1 - (lastOf (p.take (i + 1))).length = _
    rw [e, h2]; unfold fromN; simp
theorem from_le {p : Str} {i : Nat} (h : i ≤ p.length) : fromN p i ≤ i ∧ (p.take i).drop (fromN p i) = lastOf (p.take i) := by
  have := (lastOf_suffix (p.take i)).2
  rw [List.length_take, Nat.min_eq_left h] at this
  exact ⟨Nat.sub_le _ _, this⟩
theorem nsL_len (p : Str) (i : Nat) : (nsL p i).length ≤ p.length := by
  unfold nsL
  rw [List.length_dropLast, namesOf_len]
  have h1 : (p.take i).count 47 ≤ (p.take i).length := List.count_le_length
  have h2 : (p.take i).length ≤ p.length := by rw [List.length_take]; omega
  omega
theorem a_namesOf (p : Str) (hp : p.length ≤ 4000000000) : AFn C.P 61 [.v (str p)] (.sl false ((namesOf p).map strRow)) := by
  refine acall_intro Tryz.func61 rfl _ Tryz.ntmps61 (Nat.le_of_ble_eq_true rfl) _ Tryz.results61 0 rfl rfl ?_
  repeat' (first | refine walk ?_ | fail | ((first | (apply awp_cond; rfl)); all_goals (intro hc; have hp := hc; first | (simp at hp; done) | ((try simp at hp); first | (exfalso; omega) | skip))) | (apply awp_cond_any; rfl))
  refine Awp.red (red_nil 3 1 rfl (Nat.zero_le _)) ?_
  (refine Awp.red (red_ren (τ := ⟨[(0, .v (str p)), (3, .os 0 0 (nsL p 0).length), (4, .v (.int .i64 ((fromN p 0 : Nat) : Int))), (5, .v (.int .i64 ((0 : Nat) : Int)))], [(0, .own false 1 ((nsL p 0).map strRow))], 1⟩) [(0, 0)] rfl ?gts ?ghs) ?gmain; (case gts => (repeat (first | exact tsok_nil | refine p_pure ?_ | refine p_op ?_ | refine p_os ?_ | refine p_eq ?_ ?_))); (case ghs => (repeat (first | exact hsok_nil | refine q_id ?_ | refine q_idx ?_ ?_))))
  refine awp_loop (fun n σ => ∃ i : Nat, i ≤ p.length ∧ n = p.length - i ∧ (True) ∧ σ = ⟨[(0, .v (str p)), (3, .os 0 0 (nsL p i).length), (4, .v (.int .i64 ((fromN p i : Nat) : Int))), (5, .v (.int .i64 (i : Int)))], [(0, .own false 1 ((nsL p i).map strRow))], 1⟩) p.length ⟨0, Nat.zero_le _, rfl, trivial, rfl⟩ ?_
  rintro n σ ⟨i, hi, rfl, -, rfl⟩
  have hnl := nsL_len p i
  by_cases hlt : i < p.length
  · have hr : p[i]? = some p[i] := List.getElem?_eq_getElem hlt
    obtain ⟨hfl, hfd⟩ := from_le hi
    have hs1 := @step_slash p i hlt
    have hs2 := @step_other p i hlt
    generalize hF : fromN p i = fr at hfl hfd hs1 hs2 ⊢
    repeat' (first | refine walk ?_ | (first | (apply opsx_val; apply ex_slice_str (a := fr) (b := i); (case hx => rfl); (case hT => rfl); (case he => rfl); (case ha => exact ⟨_, rfl⟩); (case hb => exact ⟨_, rfl⟩); (case hab => (first | omega | (simp; done) | (simp only [List.length_cons, List.length_nil, List.length_map]; omega) | (simp; omega))); (case hbl => (first | omega | (simp; done) | (simp only [List.length_cons, List.length_nil, List.length_map]; omega) | (simp; omega))); (case hN => exact nle rfl)) | (refine o_fzl ?_) | (refine o_appo ?_)) | ((first | (apply awp_cond; rfl)); all_goals (intro hc; have hp := hc; first | (simp at hp; done) | ((try simp at hp); first | (exfalso; omega) | skip))) | (apply awp_cond_any; rfl))
    all_goals try (exfalso; omega)
    · have hc : p[i] = 47 := UInt8.toNat.inj (by show p[i].toNat = 47; omega)
      obtain ⟨hk, hk2⟩ := hs1 hc
      refine ⟨p.length - (i + 1), _, by omega, red_ren (τ := ⟨[(0, .v (str p)), (3, .os 0 0 (nsL p (i + 1)).length), (4, .v (.int .i64 ((fromN p (i + 1) : Nat) : Int))), (5, .v (.int .i64 ((i + 1 : Nat) : Int)))], [(0, .own false 1 ((nsL p (i + 1)).map strRow))], 1⟩) [(1, 0)] rfl ?gts ?ghs, i + 1, by omega, rfl, trivial, rfl⟩; (case gts => (repeat (first | exact tsok_nil | refine p_pure ?_ | refine p_op ?_ | refine p_os ?_ | refine p_eq ?_ ?_)); all_goals (first | (rw [hk2]; rfl) | (rw [hk2]) | (rw [hk, hfd, List.take_of_length_le (by simp)]; simp [strRow]))); (case ghs => (repeat (first | exact hsok_nil | refine q_id ?_ | refine q_idx ?_ ?_)); all_goals (first | (rw [hk2]; rfl) | (rw [hk2]) | (rw [hk, hfd, List.take_of_length_le (by simp)]; simp [strRow])))
    · have hc : ¬ p[i] = 47 := fun e => by rw [e] at hp; simp at hp
      obtain ⟨hk, hk2⟩ := hs2 hc
      refine ⟨p.length - (i + 1), _, by omega, red_ren (τ := ⟨[(0, .v (str p)), (3, .os 0 0 (nsL p (i + 1)).length), (4, .v (.int .i64 ((fromN p (i + 1) : Nat) : Int))), (5, .v (.int .i64 ((i + 1 : Nat) : Int)))], [(0, .own false 1 ((nsL p (i + 1)).map strRow))], 1⟩) [(0, 0)] rfl ?gts ?ghs, i + 1, by omega, rfl, trivial, rfl⟩; (case gts => (repeat (first | exact tsok_nil | refine p_pure ?_ | refine p_op ?_ | refine p_os ?_ | refine p_eq ?_ ?_)); all_goals (first | (rw [hk2]; rfl) | (rw [hk2]) | (rw [hk]))); (case ghs => (repeat (first | exact hsok_nil | refine q_id ?_ | refine q_idx ?_ ?_)); all_goals (first | (rw [hk2]; rfl) | (rw [hk2]) | (rw [hk])))
  obtain rfl : i = p.length := by omega
  obtain ⟨hfl, hfd⟩ := from_le hi
  generalize hF : fromN p p.length = fr at hfl hfd ⊢
  repeat' (first | refine walk ?_ | (first | (apply opsx_val; apply ex_slice_str (a := fr) (b := p.length); (case hx => rfl); (case hT => rfl); (case he => rfl); (case ha => exact ⟨_, rfl⟩); (case hb => rfl); (case hab => (first | omega | (simp; done) | (simp only [List.length_cons, List.length_nil, List.length_map]; omega) | (simp; omega))); (case hbl => (first | omega | (simp; done) | (simp only [List.length_cons, List.length_nil, List.length_map]; omega) | (simp; omega))); (case hN => exact nle rfl)) | (refine o_fzl ?_) | (refine o_appo ?_)) | ((first | (apply awp_cond; rfl)); all_goals (intro hc; have hp := hc; first | (simp at hp; done) | ((try simp at hp); first | (exfalso; omega) | skip))) | (apply awp_cond_any; rfl))
  all_goals try (exfalso; omega)
  have hall : nsL p p.length ++ [lastOf p] = namesOf p := by unfold nsL; rw [List.take_length]; exact (split_ref p).1.symm
  rw [List.take_length] at hfd
  (refine f_pure (rs := [.tmp 2]) ?_; (repeat' (first | exact rzl_nil | apply rzl_cons | exact rz_pure rfl | exact rz_ex | exact z_os | apply rz_agg | apply rz_tup | apply rz_clo | apply rz_int | apply rz_bool | apply rz_str | refine z_eq ?_ | apply rz_sl)); all_goals (rw [← hall, List.take_of_length_le (by simp), List.take_length, hfd]; simp [strRow]))

theorem mem_take_succ {α : Type} {l : List α} {k : Nat} (hk : k < l.length) {p : α → Prop} (h : ∀ x, x ∈ l.take k → p x) (hx : p l[k]) : ∀ x, x ∈ l.take (k + 1) → p x := by
  intro x hm
  rw [List.take_succ_eq_append_getElem hk] at hm
  rcases List.mem_append.1 hm with hm | hm
  · exact h x hm
  · simp at hm; exact hm ▸ hx
theorem namesOf_many (p : Str) : (namesOf p).length ≤ p.length + 1 := by
  rw [namesOf_len]
  have : p.count 47 ≤ p.length := List.count_le_length
  omega
theorem a_tooGreat (p : Str) (hp : p.length ≤ 4000000000) : AFn C.P 62 [.v (str p)] (.v (.bool (tooGreat p))) := by
  have hn := a_namesOf p hp
  have htg : tooGreat p = (decide (6 < (namesOf p).length) || decide (80 < p.length)) := rfl
  refine acall_intro Tryz.func62 rfl _ Tryz.ntmps62 (Nat.le_of_ble_eq_true rfl) _ Tryz.results62 0 rfl rfl ?_
  repeat' (first | refine walk ?_ | (first | (apply to_call Tryz.func61 rfl rfl; intro hIsFn; refine o_callp hIsFn (hn ..) ?_)) | ((first | (apply ops_split_t; rfl; rfl; exact nle rfl) | (apply ops_split_f; rfl; rfl; exact nle rfl) | (apply awp_cond; rfl)); all_goals (intro hc; have hp := hc; first | (simp at hp; done) | ((try simp at hp); first | (exfalso; omega) | skip))) | (apply awp_cond_any; rfl))
  all_goals (apply fin_bool; rfl; rw [htg])
  all_goals first
    | (have h6 : ¬ 6 < (namesOf p).length := (by omega)
       simp [h6]; done)
    | (have h6 : 6 < (namesOf p).length := (by omega)
       simp [h6]; done)
    | (have h6 : ¬ 6 < (namesOf p).length := (by omega)
       simp [h6]; omega)
theorem a_checkPath (p : Str) (hp : p.length ≤ 4000000000) : AFn C.P 37 [.v (str p)] (.v (.int .i64 (pathErr p))) := by
  have hn := a_namesOf p hp
  have hg := a_tooGreat p hp
  have hpe : pathErr p = if (namesOf p).all isName = true then (if tooGreat p = true then 2 else 0) else 1 := rfl
  have hsh : ∀ n, n ∈ namesOf p → n.length ≤ p.length := fun n h => namesOf_short h
  have hmn := namesOf_many p
  generalize pathErr p = E at hpe ⊢
  generalize namesOf p = L at hn hpe hsh hmn
  refine acall_intro Tryz.func37 rfl _ Tryz.ntmps37 (Nat.le_of_ble_eq_true rfl) _ Tryz.results37 0 rfl rfl ?_
  repeat' (first | refine walk ?_ | (first | (apply to_call Tryz.func61 rfl rfl; intro hIsFn; refine o_callp hIsFn (hn ..) ?_)) | ((first | (apply awp_cond; rfl)); all_goals (intro hc; have hp := hc; first | (simp at hp; done) | ((try simp at hp); first | (exfalso; omega) | skip))) | (apply awp_cond_any; rfl))
  (refine Awp.red (red_pure (ts := [(0, .v (str p)), (3, .sl false (L.map strRow)), (4, .v (.int .i64 ((0 : Nat) : Int)))]) ?_) ?_; ((repeat (first | exact tsok_nil | refine p_pure ?_ | refine p_eq ?_ ?_))))
  refine awp_loop (fun n σ => ∃ i : Nat, i ≤ L.length ∧ n = L.length - i ∧ (∀ x, x ∈ L.take i → isName x = true) ∧ σ = ⟨[(0, .v (str p)), (3, .sl false (L.map strRow)), (4, .v (.int .i64 (i : Int)))], [], C.nh⟩) L.length ⟨0, Nat.zero_le _, rfl, (by simp), rfl⟩ ?_
  rintro n σ ⟨i, hi, rfl, hsofar, rfl⟩
  by_cases hlt : i < L.length
  · have hr := getRow (f := strRow) hlt
    have hnm := g_isNameR L[i] (by have := hsh L[i] (List.getElem_mem hlt); omega)
    repeat' (first | refine walk ?_ | (first | (apply to_call Tryz.func19 rfl rfl; intro hIsFn; refine o_callf hIsFn (hnm ..) ?_; skip)) | ((first | (apply awp_cond; rfl)); all_goals (intro hc; have hp := hc; first | (simp at hp; done) | ((try simp at hp); first | (exfalso; omega) | skip))) | (apply awp_cond_any; rfl))
    all_goals try (exfalso; omega)
    · apply fin_int
      rfl
      have hall : ¬ L.all isName = true := fun h => by
        have := List.all_eq_true.1 h L[i] (List.getElem_mem hlt)
        simp_all
      rw [hpe, if_neg hall]
    · refine ⟨L.length - (i + 1), _, by omega, red_pure (ts := [(0, .v (str p)), (3, .sl false (L.map strRow)), (4, .v (.int .i64 ((i + 1 : Nat) : Int)))]) ?_, i + 1, by omega, rfl, mem_take_succ hlt hsofar (by assumption), rfl⟩; ((repeat (first | exact tsok_nil | refine p_pure ?_ | refine p_eq ?_ ?_)))
  obtain rfl : i = L.length := by omega
  rw [List.take_length] at hsofar
  have hall : L.all isName = true := List.all_eq_true.2 hsofar
  rw [if_pos hall] at hpe
  repeat' (first | refine walk ?_ | (first | (apply to_call Tryz.func62 rfl rfl; intro hIsFn; refine o_callf hIsFn (hg ..) ?_; skip)) | ((first | (apply awp_cond; rfl)); all_goals (intro hc; have hp := hc; first | (simp at hp; done) | ((try simp at hp); first | (exfalso; omega) | skip))) | (apply awp_cond_any; rfl))
  all_goals try (exfalso; omega)
  all_goals (apply fin_int; rfl; simp_all)
end Go.Proofs.YtaoffekhpjgmdaaGreatDoor

/- Paths in the abstract layer, 9: the reference's PathOf, ParentOf, LastOf, Joined, IsIn. -/
set_option linter.unusedSimpArgs false
set_option linter.unnecessarySimpa false
set_option maxHeartbeats 1000000
namespace Go.Proofs.YtaoffekhpjgmdaaGreatDoor
open Go.Ab Go.RowKit
set_option maxRecDepth 10000
attribute [local irreducible] Awp Ops OpsX Wanted Red ExOk Go.Ab.Fin ACall Rz RzL RzRows Enters ResOk RenV RenVL ArgV ArgVL

theorem pathOf_take (l : List Str) (i : Nat) : (pathOf (l.take i)).length ≤ (pathOf l).length := by
  by_cases h1 : l.take i = []
  · rw [h1]; simp [pathOf]
  · by_cases h2 : l.drop i = []
    · have := List.take_append_drop i l
      rw [h2, List.append_nil] at this
      rw [this]; exact Nat.le_refl _
    · have h3 := pathOf_app h1 h2
      rw [List.take_append_drop] at h3
      rw [h3]; simp
theorem pathOf_mem {l : List Str} {i : Nat} (h : i < l.length) : l[i].length ≤ (pathOf l).length := by
  have h1 := pathOf_take l (i + 1)
  by_cases h0 : i = 0
  · subst h0
    rw [pathOf_first h] at h1; exact h1
  · rw [pathOf_succ h (by omega)] at h1
    simp at h1; omega
theorem a_pathOf (l : List Str) (hl : l.length ≤ 8000000000) (hp : (pathOf l).length ≤ 8000000000) : AFn C.P 60 [.sl false (l.map strRow)] (.v (str (pathOf l))) := by
  refine acall_intro Tryz.func60 rfl _ Tryz.ntmps60 (Nat.le_of_ble_eq_true rfl) _ Tryz.results60 0 rfl rfl ?_
  repeat' (first | refine walk ?_ | fail | ((first | (apply awp_cond; rfl)); all_goals (intro hc; have hp := hc; first | (simp at hp; done) | ((try simp at hp); first | (exfalso; omega) | skip))) | (apply awp_cond_any; rfl))
  (refine Awp.red (red_pure (ts := [(0, .sl false (l.map strRow)), (3, .v (str (pathOf (l.take 0)))), (4, .v (.int .i64 ((0 : Nat) : Int)))]) ?_) ?_; ((repeat (first | exact tsok_nil | refine p_pure ?_ | refine p_eq ?_ ?_))))
  refine awp_loop (fun n σ => ∃ i : Nat, i ≤ l.length ∧ n = l.length - i ∧ (True) ∧ σ = ⟨[(0, .sl false (l.map strRow)), (3, .v (str (pathOf (l.take i)))), (4, .v (.int .i64 (i : Int)))], [], C.nh⟩) l.length ⟨0, Nat.zero_le _, rfl, trivial, rfl⟩ ?_
  rintro n σ ⟨i, hi, rfl, -, rfl⟩
  by_cases hlt : i < l.length
  · have hr := getRow (f := strRow) hlt
    have hb1 := pathOf_take l i
    have hb2 := pathOf_mem hlt
    have hs0 := @pathOf_succ l i hlt
    have hf0 := @pathOf_first l (by omega)
    repeat' (first | refine walk ?_ | (first | (apply opsx_val; apply ex_sadd; rfl; rfl; (simp only [List.length_append, List.length_cons, List.length_nil]; omega); exact nle rfl)) | ((first | (apply awp_cond; rfl)); all_goals (intro hc; have hp := hc; first | (simp at hp; done) | ((try simp at hp); first | (exfalso; omega) | skip))) | (apply awp_cond_any; rfl))
    all_goals try (exfalso; omega)
    · refine ⟨l.length - (i + 1), _, by omega, red_pure (ts := [(0, .sl false (l.map strRow)), (3, .v (str (pathOf (l.take (i + 1))))), (4, .v (.int .i64 ((i + 1 : Nat) : Int)))]) ?_, i + 1, by omega, rfl, trivial, rfl⟩; ((repeat (first | exact tsok_nil | refine p_pure ?_ | refine p_eq ?_ ?_)); all_goals (rw [hs0 (by omega)]))
    · have h0 : i = 0 := by omega
      have hf1 : pathOf (l.take (i + 1)) = l[i] := by subst h0; exact hf0
      refine ⟨l.length - (i + 1), _, by omega, red_pure (ts := [(0, .sl false (l.map strRow)), (3, .v (str (pathOf (l.take (i + 1))))), (4, .v (.int .i64 ((i + 1 : Nat) : Int)))]) ?_, i + 1, by omega, rfl, trivial, rfl⟩; ((repeat (first | exact tsok_nil | refine p_pure ?_ | refine p_eq ?_ ?_)); all_goals (rw [hf1]; subst h0; rfl))
  obtain rfl : i = l.length := by omega
  rw [List.take_length]
  repeat' (first | refine walk ?_ | fail | ((first | (apply awp_cond; rfl)); all_goals (intro hc; have hp := hc; first | (simp at hp; done) | ((try simp at hp); first | (exfalso; omega) | skip))) | (apply awp_cond_any; rfl))
  all_goals try (exfalso; omega)
  (refine f_pure (rs := [.tmp 2]) ?_; (repeat' (first | exact rzl_nil | apply rzl_cons | exact rz_pure rfl | exact rz_ex | exact z_os | apply rz_agg | apply rz_tup | apply rz_clo | apply rz_int | apply rz_bool | apply rz_str | refine z_eq ?_ | apply rz_sl)); all_goals skip)
theorem names_pos (p : Str) : 0 < (namesOf p).length := List.length_pos_iff.2 (namesOf_ne p)
theorem a_parentOf (p : Str) (hp : p.length ≤ 4000000000) : AFn C.P 40 [.v (str p)] (.v (str (parentOf p))) := by
  have hn := a_namesOf p hp
  have hm := namesOf_many p
  have hpos := names_pos p
  obtain ⟨h1, h2⟩ := split_ref p
  have hpl : (parentOf p).length ≤ p.length := by simp [parentOf]; omega
  have hpo := a_pathOf (namesOf p).dropLast (by rw [List.length_dropLast]; omega) (by rw [h2]; omega)
  rw [h2, List.dropLast_eq_take, List.map_take] at hpo
  have hrk : ∀ row, row ∈ (namesOf p).map strRow → row.length = 1 := fun row hr => by obtain ⟨x, _, rfl⟩ := List.mem_map.1 hr; rfl
  generalize namesOf p = L at hn hm hpos hpo hrk
  have hml : (L.map strRow).length = L.length := List.length_map ..
  refine acall_intro Tryz.func40 rfl _ Tryz.ntmps40 (Nat.le_of_ble_eq_true rfl) _ Tryz.results40 0 rfl rfl ?_
  repeat' (first | refine walk ?_ | (first | (apply to_call Tryz.func61 rfl rfl; intro hIsFn; refine o_callp hIsFn (hn ..) ?_) | (apply opsx_val; apply ex_slice_sl (ex' := false) (a := 0) (b := L.length - 1) (m := 0); (case hx => rfl); (case hT => rfl); (case he => rfl); (case hE => rfl); (case ha => rfl); (case hb => exact ⟨_, av_int (by omega)⟩); (case hm => trivial); (case hab => (first | omega | (simp; done) | (simp only [List.length_cons, List.length_nil, List.length_map]; omega) | (simp; omega))); (case hbl => (first | omega | (simp; done) | (simp only [List.length_cons, List.length_nil, List.length_map]; omega) | (simp; omega))); (case hrk => exact hrk); (case hex => exact nofun); (case hN => exact nle rfl)) | (apply to_call Tryz.func60 rfl rfl; intro hIsFn; refine o_callp hIsFn (hpo ..) ?_)) | ((first | (apply awp_cond; rfl)); all_goals (intro hc; have hp := hc; first | (simp at hp; done) | ((try simp at hp); first | (exfalso; omega) | skip))) | (apply awp_cond_any; rfl))
  (refine f_pure (rs := [.tmp 2]) ?_; (repeat' (first | exact rzl_nil | apply rzl_cons | exact rz_pure rfl | exact rz_ex | exact z_os | apply rz_agg | apply rz_tup | apply rz_clo | apply rz_int | apply rz_bool | apply rz_str | refine z_eq ?_ | apply rz_sl)); all_goals trace_state)
theorem a_isIn (p q : Str) (hp : p.length ≤ 4000000000) (hq : q.length ≤ 4000000000) : AFn C.P 58 [.v (str p), .v (str q)] (.v (.bool (inB p q))) := by
  have h1 := a_namesOf p hp
  have h2 := a_namesOf q hq
  have m1 := namesOf_many p
  have m2 := namesOf_many q
  rw [inB_ref]
  generalize namesOf p = A at h1 m1 ⊢
  generalize namesOf q = B at h2 m2 ⊢
  refine acall_intro Tryz.func58 rfl _ Tryz.ntmps58 (Nat.le_of_ble_eq_true rfl) _ Tryz.results58 0 rfl rfl ?_
  repeat' (first | refine walk ?_ | (first | (apply to_call Tryz.func61 rfl rfl; intro hIsFn; refine o_callp hIsFn (h1 ..) ?_) | (apply to_call Tryz.func61 rfl rfl; intro hIsFn; refine o_callp hIsFn (h2 ..) ?_)) | ((first | (apply awp_cond; rfl)); all_goals (intro hc; have hp := hc; first | (simp at hp; done) | ((try simp at hp); first | (exfalso; omega) | skip))) | (apply awp_cond_any; rfl))
  · apply fin_bool
    rfl
    rw [prefix_len (by simp at *; omega)]
  have hle : B.length ≤ A.length := by simp at *; omega
  (refine Awp.red (red_pure (ts := [(5, .sl false (A.map strRow)), (6, .sl false (B.map strRow)), (7, .v (.int .i64 ((0 : Nat) : Int)))]) ?_) ?_; ((repeat (first | exact tsok_nil | refine p_pure ?_ | refine p_eq ?_ ?_))))
  refine awp_loop (fun n σ => ∃ i : Nat, i ≤ B.length ∧ n = B.length - i ∧ (∀ k (h1 : k < B.length) (h2 : k < A.length), k < i → A[k] = B[k]) ∧ σ = ⟨[(5, .sl false (A.map strRow)), (6, .sl false (B.map strRow)), (7, .v (.int .i64 (i : Int)))], [], C.nh⟩) B.length ⟨0, Nat.zero_le _, rfl, (fun k _ _ h => absurd h (Nat.not_lt_zero _)), rfl⟩ ?_
  rintro n σ ⟨i, hi, rfl, hsofar, rfl⟩
  by_cases hlt : i < B.length
  · have hr := getRow (f := strRow) hlt
    have hr' := getRow (f := strRow) (l := A) (i := i) (by omega)
    repeat' (first | refine walk ?_ | fail | ((first | (apply awp_cond; rfl)); all_goals (intro hc; have hp := hc; first | (simp at hp; done) | ((try simp at hp); first | (exfalso; omega) | skip))) | (apply awp_cond_any; rfl))
    all_goals try (exfalso; omega)
    · apply fin_bool
      rfl
      rw [prefix_bad hle hlt (by assumption)]
    · refine ⟨B.length - (i + 1), _, by omega, red_pure (ts := [(5, .sl false (A.map strRow)), (6, .sl false (B.map strRow)), (7, .v (.int .i64 ((i + 1 : Nat) : Int)))]) ?_, i + 1, by omega, rfl, (fun k h1 h2 hk => by
        by_cases e : k = i
        · subst e; assumption
        · exact hsofar k h1 h2 (by omega)), rfl⟩; ((repeat (first | exact tsok_nil | refine p_pure ?_ | refine p_eq ?_ ?_)))
  obtain rfl : i = B.length := by omega
  repeat' (first | refine walk ?_ | fail | ((first | (apply awp_cond; rfl)); all_goals (intro hc; have hp := hc; first | (simp at hp; done) | ((try simp at hp); first | (exfalso; omega) | skip))) | (apply awp_cond_any; rfl))
  all_goals try (exfalso; omega)
  apply fin_bool
  rfl
  rw [prefix_all hle fun k hk => hsofar k hk (by omega) hk]
end Go.Proofs.YtaoffekhpjgmdaaGreatDoor
