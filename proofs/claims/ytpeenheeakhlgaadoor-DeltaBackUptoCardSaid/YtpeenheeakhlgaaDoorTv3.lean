/- The law TreeStale: plain, and walked. -/
import Derived.Test.YtpeenheeakhlgaaDoorTv1
import Derived.Test.YtpeenheeakhlgaaDoorLyD
set_option linter.unusedSimpArgs false
set_option linter.unnecessarySimpa false
set_option linter.unusedVariables false
set_option maxHeartbeats 1000000
namespace Go.Proofs.YtpeenheeakhlgaaDoor
open Go.Ab Go.RowKit
set_option maxRecDepth 10000

def withB (c : Chg) (b : Int) : Chg := ⟨c.kind, c.path, c.to, c.text, b⟩
def newestOf (t : List Ent) (p : Str) : Int := t.foldl (fun n x => if inB x.path p = true then max n x.ver else n) 0
theorem newest_succ {t : List Ent} {p : Str} {i : Nat} (h : i < t.length) : newestOf (t.take (i + 1)) p = if inB t[i].path p = true then max (newestOf (t.take i) p) t[i].ver else newestOf (t.take i) p := by
  unfold newestOf
  rw [List.take_succ_eq_append_getElem h, List.foldl_append]; rfl
theorem newest_le (p : Str) (b : Int) : ∀ (t : List Ent) (n : Int), t.foldl (fun n x => if inB x.path p = true then max n x.ver else n) n ≤ b ↔ n ≤ b ∧ ∀ x, x ∈ t → inB x.path p = true → x.ver ≤ b
  | [], n => by simp
  | x :: t, n => by
    rw [List.foldl_cons, newest_le p b t]
    constructor
    · intro ⟨h1, h2⟩
      refine ⟨?_, fun y hy hi => ?_⟩
      · split at h1 <;> omega
      · rcases List.mem_cons.1 hy with rfl | hy
        · rw [if_pos hi] at h1; omega
        · exact h2 y hy hi
    · intro ⟨h1, h2⟩
      refine ⟨?_, fun y hy hi => h2 y (by simp [hy]) hi⟩
      split
      · rename_i hi
        have := h2 x (by simp) hi
        omega
      · exact h1
theorem chg_withB {c : Chg} {b : Int} (hb : -1 ≤ b ∧ b ≤ 1000000) : chgErr (withB c b) = chgErr (withB c (-1)) := by
  unfold chgErr chgRest withB
  have h1 : ¬ (b < -1 ∨ 1000000 < b) := by omega
  have h2 : ¬ ((-1 : Int) < -1 ∨ 1000000 < (-1 : Int)) := by omega
  simp only [h1, h2]
theorem pre_withB (t : List Ent) (c : Chg) (b : Int) : preErr t (withB c b) = preErr t (withB c (-1)) := rfl
theorem done_withB (t : List Ent) (c : Chg) (b v : Int) : doneE t (withB c b) v = doneE t (withB c (-1)) v := rfl
theorem stale_law {t : List Ent} {c : Chg} {v b : Int} (hb : 0 ≤ b ∧ b ≤ 1000000) :
    (¬ applyE t (withB c (-1)) v = 0 → ¬ applyE t (withB c b) v = 0) ∧ (applyE t (withB c (-1)) v = 0 → (if newestOf t c.path ≤ b then applyE t (withB c b) v = 0 else applyE t (withB c b) v = 8)) := by
  have hc := @chg_withB c b (by omega)
  have hp := pre_withB t c b
  have hd := done_withB t c b v
  have h1 := raw_pre t (withB c (-1)) v
  have h2 := raw_pre t (withB c b) v
  have hs1 : staleErr t (withB c (-1)) = 0 := by
    unfold staleErr
    rw [if_neg]; simp [withB]
  have hs2 : staleErr t (withB c b) = if newestOf t c.path ≤ b then 0 else 8 := by
    unfold staleErr
    have hne : ¬ (withB c b).base = -1 := by show ¬ b = -1; omega
    by_cases hn : newestOf t c.path ≤ b
    · rw [if_pos hn, if_neg]
      rintro ⟨-, h3⟩
      obtain ⟨x, hx, hx2⟩ := List.any_eq_true.1 h3
      simp only [newer, withB, Bool.and_eq_true, decide_eq_true_eq] at hx2
      have h8 := ((newest_le c.path b t 0).1 hn).2 x hx hx2.2
      have h9 : b < x.ver := of_decide_eq_true hx2.1
      omega
    · rw [if_neg hn, if_pos]
      refine ⟨hne, ?_⟩
      have h4 : ¬ ((0 : Int) ≤ b ∧ ∀ x, x ∈ t → inB x.path c.path = true → x.ver ≤ b) := fun h5 => hn ((newest_le c.path b t 0).2 h5)
      have h5 : ∃ x, x ∈ t ∧ inB x.path c.path = true ∧ b < x.ver := by
        apply Classical.byContradiction
        intro h6
        refine h4 ⟨by omega, fun x hx hi => ?_⟩
        apply Classical.byContradiction
        intro h7
        exact h6 ⟨x, hx, hi, by omega⟩
      obtain ⟨x, hx, hi, hv⟩ := h5
      exact List.any_eq_true.2 ⟨x, hx, by simp only [newer, withB, hi, Bool.and_true]; exact decide_eq_true hv⟩
  rw [hc, hp, hd, hs2] at h2
  rw [hs1] at h1
  unfold applyE
  rw [h1, h2]
  by_cases a1 : treeErr t = 0
  · by_cases a2 : isVer v = false
    · simp [a1, a2]
    · by_cases a3 : chgErr (withB c (-1)) = 0
      · by_cases a4 : preErr t (withB c (-1)) = 0
        · by_cases a5 : newestOf t c.path ≤ b
          · simp [a1, a2, a3, a4, a5]
          · simp [a1, a2, a3, a4, a5]
        · simp [a1, a2, a3, a4]
      · simp [a1, a2, a3]
  · simp [a1]
def chooseN (c : Int) (n : Nat) : Nat := (if c < 0 then (-(c + 1)).toNat else c.toNat) % n
attribute [local irreducible] Awp Ops OpsX Wanted Red ExOk Go.Ab.Fin ACall Rz RzL RzRows Enters ResOk RenV RenVL ArgV ArgVL
theorem a_choose (c : Int) (n : Nat) (hn : 0 < n) (hc0 : -9223372036854775808 ≤ c ∧ c ≤ 9223372036854775807) : AFn C.P 31 [.v (.int .i64 c), .v (.int .i64 (n : Int))] (.v (.int .i64 ((chooseN c n : Nat) : Int))) := by
  by_cases h0 : c < 0
  · have hE : chooseN c n = (-(c + 1)).toNat % n := by unfold chooseN; rw [if_pos h0]
    rw [hE]
    refine acall_intro Tryd.func31 rfl _ Tryd.ntmps31 (Nat.le_of_ble_eq_true rfl) _ Tryd.results31 0 rfl rfl ?_
    repeat' (first | refine walk ?_ | (first | (apply opsx_val; apply ex_neg; rfl; omega; omega; exact nle rfl) | (apply opsx_val; apply ex_rem (a := (-(c + 1)).toNat) (b := n); exact av_int (by omega); rfl; exact hn; exact nle rfl)) | ((first | (apply awp_cond; rfl)); all_goals (intro hc; have hp := hc; first | (simp at hp; done) | ((try simp at hp); first | (exfalso; omega) | skip))) | (apply awp_cond_any; rfl))
    all_goals try (exfalso; omega)
    all_goals (apply fin_int; rfl; rfl)
  · have hE : chooseN c n = c.toNat % n := by unfold chooseN; rw [if_neg h0]
    rw [hE]
    refine acall_intro Tryd.func31 rfl _ Tryd.ntmps31 (Nat.le_of_ble_eq_true rfl) _ Tryd.results31 0 rfl rfl ?_
    repeat' (first | refine walk ?_ | (first | (apply opsx_val; apply ex_rem (a := c.toNat) (b := n); exact av_int (by omega); rfl; exact hn; exact nle rfl)) | ((first | (apply awp_cond; rfl)); all_goals (intro hc; have hp := hc; first | (simp at hp; done) | ((try simp at hp); first | (exfalso; omega) | skip))) | (apply awp_cond_any; rfl))
    all_goals try (exfalso; omega)
    all_goals (apply fin_int; rfl; rfl)
theorem law_tstale (t : List Ent) (c : Chg) (v b : Int) (hb : EBig t) (hcs : c.small) (hb0 : -9223372036854775808 ≤ b ∧ b ≤ 9223372036854775807) : AFn C.P 8 [entAV t, .agg c.row, .v (.int .i64 v), .v (.int .i64 b)] (.v (.bool true)) := by
  obtain ⟨l1, l2, l3⟩ := hcs
  have h1 : AFn C.P 21 [entAV t, .agg [.v (.int .i64 c.kind), .v (str c.path), .v (str c.to), .v (str c.text), .v (.int .i64 (-1))], .v (.int .i64 v)] _ := a_apply t (withB c (-1)) v hb ⟨l1, l2, l3⟩
  have hch : AFn C.P 31 [.v (.int .i64 b), .v (.int .i64 1000001)] (.v (.int .i64 ((chooseN b 1000001 : Nat) : Int))) := a_choose b 1000001 (by omega) hb0
  have hcb : chooseN b 1000001 ≤ 1000000 := by unfold chooseN; exact Nat.le_of_lt_succ (Nat.mod_lt _ (by omega))
  generalize chooseN b 1000001 = bb at *
  have h2 : AFn C.P 21 [entAV t, .agg [.v (.int .i64 c.kind), .v (str c.path), .v (str c.to), .v (str c.text), .v (.int .i64 (bb : Int))], .v (.int .i64 v)] _ := a_apply t (withB c (bb : Int)) v hb ⟨l1, l2, l3⟩
  obtain ⟨hs1, hs2⟩ := @stale_law t c v (bb : Int) (by omega)
  have hll := hb.len
  have hpt : ∀ x, x ∈ t → x.path.length ≤ 1000000000 := fun x hx => (hb.each x hx).1
  generalize applyE t (withB c (-1)) v = E1 at *
  generalize applyE t (withB c (bb : Int)) v = E2 at *
  generalize applyL t (withB c (-1)) v = L1 at *
  generalize applyL t (withB c (bb : Int)) v = L2 at *
  refine acall_intro Tryd.func8 rfl _ Tryd.ntmps8 (Nat.le_of_ble_eq_true rfl) _ Tryd.results8 0 rfl rfl ?_
  repeat' (first | refine walk ?_ | (first | (apply to_call Tryd.func25 rfl rfl; intro hIsFn; refine o_callf hIsFn (a_treeBegun ..) ?_; skip) | (apply to_call Tryd.func21 rfl rfl; intro hIsFn; refine o_callp hIsFn (h1 ..) ?_)) | ((first | (apply ops_split_t; rfl; rfl; exact nle rfl) | (apply ops_split_f; rfl; rfl; exact nle rfl) | (apply awp_cond; rfl)); all_goals (intro hc; have hp := hc; first | (simp at hp; done) | ((try simp at hp); first | (exfalso; omega) | skip))) | (apply awp_cond_any; rfl))
  all_goals try (exfalso; first | omega | (simp_all; done))
  (refine Awp.red (red_ren (τ := ⟨[(0, entAV t), (2, .v (.int .i64 v)), (3, .v (.int .i64 b)), (5, .op 0 0 0), (10, .v (.int .i64 E1)), (11, .v (.int .i64 (newestOf (t.take 0) c.path))), (12, .v (.int .i64 ((0 : Nat) : Int)))], [(0, .own true 5 [[.v (.int .i64 c.kind), .v (str c.path), .v (str c.to), .v (str c.text), .v (.int .i64 (-1))]])], 1⟩) [(0, 0)] rfl ?gts ?ghs) ?gmain; (case gts => (repeat (first | exact tsok_nil | refine p_pure ?_ | refine p_op ?_ | refine p_os ?_ | refine p_eq ?_ ?_))); (case ghs => (repeat (first | exact hsok_nil | refine q_id ?_ | refine q_idx ?_ ?_))))
  refine awp_loop (fun n σ => ∃ i : Nat, i ≤ t.length ∧ n = t.length - i ∧ (True) ∧ σ = ⟨[(0, entAV t), (2, .v (.int .i64 v)), (3, .v (.int .i64 b)), (5, .op 0 0 0), (10, .v (.int .i64 E1)), (11, .v (.int .i64 (newestOf (t.take i) c.path))), (12, .v (.int .i64 (i : Int)))], [(0, .own true 5 [[.v (.int .i64 c.kind), .v (str c.path), .v (str c.to), .v (str c.text), .v (.int .i64 (-1))]])], 1⟩) t.length ⟨0, Nat.zero_le _, rfl, trivial, rfl⟩ ?_
  rintro n σ ⟨i, hi, rfl, -, rfl⟩
  by_cases hlt : i < t.length
  · have hr := getRow (f := Ent.row) hlt
    have hpl := hpt t[i] (List.getElem_mem _)
    have hii := a_isIn t[i].path c.path (by omega) (by omega)
    have hns := @newest_succ t c.path i hlt
    generalize inB t[i].path c.path = IB at *
    clear hs1 hs2 hpt
    repeat' (first | refine walk ?_ | (first | (apply to_call Tryd.func30 rfl rfl; intro hIsFn; refine o_callf hIsFn (hii ..) ?_; skip) | (apply opsx_val; apply ex_max; rfl; rfl; exact nle rfl)) | ((first | (apply ops_split_t; rfl; rfl; exact nle rfl) | (apply ops_split_f; rfl; rfl; exact nle rfl) | (apply awp_cond; rfl)); all_goals (intro hc; have hp := hc; first | (simp at hp; done) | ((try simp at hp); first | (exfalso; omega) | skip))) | (apply awp_cond_any; rfl))
    all_goals try (exfalso; omega)
    all_goals (refine ⟨t.length - (i + 1), _, by omega, red_ren (τ := ⟨[(0, entAV t), (2, .v (.int .i64 v)), (3, .v (.int .i64 b)), (5, .op 0 0 0), (10, .v (.int .i64 E1)), (11, .v (.int .i64 (newestOf (t.take (i + 1)) c.path))), (12, .v (.int .i64 ((i + 1 : Nat) : Int)))], [(0, .own true 5 [[.v (.int .i64 c.kind), .v (str c.path), .v (str c.to), .v (str c.text), .v (.int .i64 (-1))]])], 1⟩) [(0, 0)] rfl ?gts ?ghs, i + 1, by omega, rfl, trivial, rfl⟩; (case gts => (repeat (first | exact tsok_nil | refine p_pure ?_ | refine p_op ?_ | refine p_os ?_ | refine p_eq ?_ ?_)); all_goals (rw [hns]; simp_all; done)); (case ghs => (repeat (first | exact hsok_nil | refine q_id ?_ | refine q_idx ?_ ?_)); all_goals (rw [hns]; simp_all; done)))
  obtain rfl : i = t.length := by omega
  rw [List.take_length]
  generalize newestOf t c.path = NW at *
  repeat' (first | refine walk ?_ | (first | (apply to_call Tryd.func31 rfl rfl; intro hIsFn; refine o_callf hIsFn (hch ..) ?_; skip) | (apply to_call Tryd.func21 rfl rfl; intro hIsFn; refine o_callp hIsFn (h2 ..) ?_) | (refine o_beq ?_)) | ((first | (apply ops_split_t; rfl; rfl; exact nle rfl) | (apply ops_split_f; rfl; rfl; exact nle rfl) | (apply awp_cond; rfl)); all_goals (intro hc; have hp := hc; first | (simp at hp; done) | ((try simp at hp); first | (exfalso; omega) | skip))) | (apply awp_cond_any; rfl))
  all_goals try (exfalso; omega)
  all_goals (apply fin_bool; rfl; by_cases hn : NW ≤ (bb : Int) <;> simp_all)
theorem law_tstale_all (ys : List AV) (h : TyAllW C.tab 1000000000 [22, 35, 3, 3] ys) : AFn C.P 8 ys (.v (.bool true)) := by
  obtain ⟨_, _, rfl, h0, _, _, rfl, h1, _, _, rfl, h2, _, _, rfl, h3, rfl⟩ := h
  obtain ⟨a, rfl, ha⟩ := tyv_ents h0
  obtain ⟨b, rfl, hb⟩ := tyv_chg h1
  obtain ⟨v, rfl, _⟩ := tyv_int h2
  obtain ⟨w, rfl, hw⟩ := tyv_int h3
  exact law_tstale a b v w ha hb (wf_bd hw)
end Go.Proofs.YtpeenheeakhlgaaDoor
