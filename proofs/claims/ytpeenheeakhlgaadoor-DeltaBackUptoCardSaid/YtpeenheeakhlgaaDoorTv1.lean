/- The law TreeGoes, walked. -/
import Derived.Test.YtpeenheeakhlgaaDoorTu8
import Derived.Test.YtpeenheeakhlgaaDoorLkA
set_option linter.unusedSimpArgs false
set_option linter.unnecessarySimpa false
set_option linter.unusedVariables false
set_option maxHeartbeats 1000000
namespace Go.Proofs.YtpeenheeakhlgaaDoor
open Go.Ab Go.RowKit
set_option maxRecDepth 10000
attribute [local irreducible] Awp Ops OpsX Wanted Red ExOk Go.Ab.Fin ACall Rz RzL RzRows Enters ResOk RenV RenVL ArgV ArgVL

theorem apply_zero {t : List Ent} {c : Chg} {v : Int} (h : applyE t c v = 0) : Right t ∧ isVer v = true ∧ rawE t c v = 0 ∧ applyL t c v = doneL t c v ∧ Right (doneL t c v) := by
  have h0 := h
  unfold applyE at h
  split at h
  · contradiction
  · rename_i h1
    split at h
    · exact absurd h (by decide)
    · rename_i h2
      have h1 : treeErr t = 0 := by omega
      have hv : isVer v = true := by simpa using h2
      have hR := right_iff.1 h1
      exact ⟨hR, hv, h, by unfold applyL; rw [if_pos h0], done_right hR hv h⟩
theorem find_of {u : List Ent} {p : Str} {x : Ent} (h : Right u) (hp : pathErr p = 0) (hl : look u p = some x) : findE u p = 0 ∧ findX u p = x := by
  have h1 : findE u p = 0 := by
    unfold findE
    rw [if_neg (by rw [right_iff.2 h]; simp), if_neg (by rw [hp]; simp), look_hit, hl]; rfl
  refine ⟨h1, ?_⟩
  unfold findX
  rw [if_pos h1, show u.find? (atP p) = some x from hl]
theorem keep_look {t : List Ent} {c : Chg} {v : Int} (h : Right t) (hr : rawE t c v = 0) {x : Ent} (hx : x ∈ t) (h1 : inB x.path c.path = false) (h2 : c.kind = 3 → inB x.path c.to = false) : look (doneL t c v) x.path = some x := by
  obtain ⟨hc0, hm0, hd0⟩ := raw_zero hr
  obtain ⟨k1, k2, hpe, hte, -⟩ := chgErr_zero hc0
  obtain ⟨hf, hi, hmv, -⟩ := may_zero hm0
  have hl := look_mem h.rise hx
  have hne : ¬ x.path = c.path := fun e => by rw [e, inB_refl] at h1; cases h1
  by_cases e1 : c.kind = 1
  · rw [show doneL t c v = putT t ⟨c.path, true, [], v⟩ from by simp [doneL, e1], look_put h.rise, if_neg hne]; exact hl
  · by_cases e2 : c.kind = 2
    · rw [show doneL t c v = putT t ⟨c.path, false, c.text, v⟩ from by simp [doneL, e2], look_put h.rise, if_neg hne]; exact hl
    · by_cases e4 : c.kind = 4
      · rw [show doneL t c v = keepE (inP c.path) t from by simp [doneL, e4], look_keep, h1, if_neg (by decide)]; exact hl
      · have e3 : c.kind = 3 := by omega
        have hM : mvErr t c = if inB c.to c.path = true then 3 else if hitE t c.to = true then 6 else 0 := by unfold mvErr; rw [if_pos e3]
        rw [hmv] at hM
        have hhit : hitE t c.to = false := by
          cases h0 : hitE t c.to with
          | true => rw [h0] at hM; split at hM <;> simp at hM
          | false => rfl
        rw [look_move h e3 (hitE_none hhit).1, h2 e3, if_neg (by decide), h1, if_neg (by decide)]; exact hl
theorem law_tgoes (t : List Ent) (c : Chg) (v : Int) (hb : EBig t) (hcs : c.small) : AFn C.P 11 [entAV t, .agg c.row, .v (.int .i64 v)] (.v (.bool true)) := by
  have h1 := a_apply t c v hb hcs
  by_cases hz : applyE t c v = 0
  · obtain ⟨hRt, hv, hr, hL, hRu⟩ := apply_zero hz
    have hkl := @keep_look t c v hRt hr
    have hch := a_tcheck (doneL t c v) hRu.big
    rw [right_iff.2 hRu] at hch
    have hpe := (chgErr_zero (raw_zero hr).1).2.2.1
    have hps := pathErr_small hpe
    have hf2 := a_find (doneL t c v) c.path hRu.big (by omega)
    have hk2 : c.kind = 2 → findE (doneL t c v) c.path = 0 ∧ findX (doneL t c v) c.path = ⟨c.path, false, c.text, v⟩ := fun e2 =>
      find_of hRu hpe (by rw [show doneL t c v = putT t ⟨c.path, false, c.text, v⟩ from by simp [doneL, e2], look_put hRt.rise, if_pos rfl])
    have hfi : ∀ x, x ∈ t → AFn C.P 33 [entAV (doneL t c v), .v (str x.path)] (.tup [.agg (findX (doneL t c v) x.path).row, .v (.int .i64 (findE (doneL t c v) x.path))]) := fun x hx => by
      have := pathErr_small (entErr_zero (hRt.ent x hx)).1
      exact a_find (doneL t c v) x.path hRu.big (by omega)
    have hfo : ∀ x, x ∈ t → inB x.path c.path = false → (c.kind = 3 → inB x.path c.to = false) → findE (doneL t c v) x.path = 0 ∧ findX (doneL t c v) x.path = x := fun x hx h3 h4 =>
      find_of hRu (entErr_zero (hRt.ent x hx)).1 (hkl hx h3 h4)
    have hto : c.to.length ≤ 1000000000 := hcs.2.1
    have hR60 := hRt.len
    have hpt : ∀ x, x ∈ t → x.path.length ≤ 80 := fun x hx => pathErr_small (entErr_zero (hRt.ent x hx)).1
    rw [hL, hz] at h1
    generalize doneL t c v = u at *
    clear hkl hL hz hr
    refine acall_intro Tryd.func11 rfl _ Tryd.ntmps11 (Nat.le_of_ble_eq_true rfl) _ Tryd.results11 0 rfl rfl ?_
    apply cut_here
    case h =>
      intro key
      by_cases e2 : c.kind = 2
      · obtain ⟨h5, h6⟩ := hk2 e2
        rw [h5, h6] at hf2
        repeat' (first | refine walk ?_ | (first | (apply to_call Tryd.func25 rfl rfl; intro hIsFn; refine o_callf hIsFn (a_treeBegun ..) ?_; skip) | (apply to_call Tryd.func21 rfl rfl; intro hIsFn; refine o_callp hIsFn (h1 ..) ?_) | (apply to_call Tryd.func32 rfl rfl; intro hIsFn; refine o_callp hIsFn (hch ..) ?_) | (apply to_call Tryd.func33 rfl rfl; intro hIsFn; refine o_callp hIsFn (hf2 ..) ?_)) | ((first | (apply ops_split_t; rfl; rfl; exact nle rfl) | (apply ops_split_f; rfl; rfl; exact nle rfl) | (apply awp_cond; rfl)); all_goals (intro hc; have hp := hc; first | (simp at hp; done) | ((try simp at hp); first | (exfalso; omega) | skip))) | (apply awp_cond_any; rfl))
        all_goals try (exfalso; first | omega | (simp_all; done))
        (refine Awp.red (red_freeze 0 rfl ?_) ?_; (intro row hrow; obtain rfl := List.mem_singleton.1 hrow; rfl); refine Awp.red (red_fp 4 0 rfl rfl (Nat.le_of_ble_eq_true rfl)) ?_)
        (refine Awp.red (red_pure (ts := [(0, entAV t), (2, .v (.int .i64 v)), (4, .fp [c.row] 0 0), (7, entAV u), (11, .v (.int .i64 ((0 : Nat) : Int)))]) ?_) ?_; ((repeat (first | exact tsok_nil | refine p_pure ?_ | refine p_eq ?_ ?_))))
        exact key.out
      · repeat' (first | refine walk ?_ | (first | (apply to_call Tryd.func25 rfl rfl; intro hIsFn; refine o_callf hIsFn (a_treeBegun ..) ?_; skip) | (apply to_call Tryd.func21 rfl rfl; intro hIsFn; refine o_callp hIsFn (h1 ..) ?_) | (apply to_call Tryd.func32 rfl rfl; intro hIsFn; refine o_callp hIsFn (hch ..) ?_)) | ((first | (apply ops_split_t; rfl; rfl; exact nle rfl) | (apply ops_split_f; rfl; rfl; exact nle rfl) | (apply awp_cond; rfl)); all_goals (intro hc; have hp := hc; first | (simp at hp; done) | ((try simp at hp); first | (exfalso; omega) | skip))) | (apply awp_cond_any; rfl))
        all_goals try (exfalso; first | omega | (simp_all; done))
        (refine Awp.red (red_freeze 0 rfl ?_) ?_; (intro row hrow; obtain rfl := List.mem_singleton.1 hrow; rfl); refine Awp.red (red_fp 4 0 rfl rfl (Nat.le_of_ble_eq_true rfl)) ?_)
        (refine Awp.red (red_pure (ts := [(0, entAV t), (2, .v (.int .i64 v)), (4, .fp [c.row] 0 0), (7, entAV u), (11, .v (.int .i64 ((0 : Nat) : Int)))]) ?_) ?_; ((repeat (first | exact tsok_nil | refine p_pure ?_ | refine p_eq ?_ ?_))))
        exact key.out
    refine awp_loop (fun n σ => ∃ i : Nat, i ≤ t.length ∧ n = t.length - i ∧ (True) ∧ σ = ⟨[(0, entAV t), (2, .v (.int .i64 v)), (4, .fp [c.row] 0 0), (7, entAV u), (11, .v (.int .i64 (i : Int)))], [], C.nh⟩) t.length ⟨0, Nat.zero_le _, rfl, trivial, rfl⟩ ?_
    rintro n σ ⟨i, hi, rfl, -, rfl⟩
    by_cases hlt : i < t.length
    · have hr := getRow (f := Ent.row) hlt
      have hm : t[i] ∈ t := List.getElem_mem _
      have hpl := hpt t[i] hm
      have hi1 := a_isIn t[i].path c.path (by omega) (by omega)
      have hi2 := a_isIn t[i].path c.to (by omega) (by omega)
      have hfx := hfi t[i] hm
      have hfy := hfo t[i] hm
      generalize inB t[i].path c.path = I1 at *
      generalize inB t[i].path c.to = I2 at *
      clear hk2 hf2 hfi hfo hpt
      by_cases hsk : I1 = false ∧ (c.kind = 3 → I2 = false)
      · obtain ⟨h5, h6⟩ := hfy hsk.1 hsk.2
        rw [h5, h6] at hfx
        repeat' (first | refine walk ?_ | (first | (apply to_call Tryd.func30 rfl rfl; intro hIsFn; refine o_callf hIsFn (hi1 ..) ?_; skip) | (apply to_call Tryd.func30 rfl rfl; intro hIsFn; refine o_callf hIsFn (hi2 ..) ?_; skip) | (apply to_call Tryd.func33 rfl rfl; intro hIsFn; refine o_callp hIsFn (hfx ..) ?_) | (apply opsx_val; apply ex_rowEq; rfl; rfl; exact eqK_ent; exact rowEq_ent _ _; (first | exact .inl ⟨rfl, rfl⟩ | exact .inr ⟨rfl, rfl⟩); exact nle rfl)) | ((first | (apply ops_split_t; rfl; rfl; exact nle rfl) | (apply ops_split_f; rfl; rfl; exact nle rfl) | (apply awp_cond; rfl)); all_goals (intro hc; have hp := hc; first | (simp at hp; done) | ((try simp at hp); first | (exfalso; omega) | skip))) | (apply awp_cond_any; rfl))
        all_goals try (exfalso; first | omega | (simp_all; done))
        all_goals (refine ⟨t.length - (i + 1), _, by omega, red_pure (ts := [(0, entAV t), (2, .v (.int .i64 v)), (4, .fp [c.row] 0 0), (7, entAV u), (11, .v (.int .i64 ((i + 1 : Nat) : Int)))]) ?_, i + 1, by omega, rfl, trivial, rfl⟩; ((repeat (first | exact tsok_nil | refine p_pure ?_ | refine p_eq ?_ ?_))))
      · repeat' (first | refine walk ?_ | (first | (apply to_call Tryd.func30 rfl rfl; intro hIsFn; refine o_callf hIsFn (hi1 ..) ?_; skip) | (apply to_call Tryd.func30 rfl rfl; intro hIsFn; refine o_callf hIsFn (hi2 ..) ?_; skip)) | ((first | (apply ops_split_t; rfl; rfl; exact nle rfl) | (apply ops_split_f; rfl; rfl; exact nle rfl) | (apply awp_cond; rfl)); all_goals (intro hc; have hp := hc; first | (simp at hp; done) | ((try simp at hp); first | (exfalso; omega) | skip))) | (apply awp_cond_any; rfl))
        all_goals try (exfalso; first | omega | (simp_all; done))
        all_goals (refine ⟨t.length - (i + 1), _, by omega, red_pure (ts := [(0, entAV t), (2, .v (.int .i64 v)), (4, .fp [c.row] 0 0), (7, entAV u), (11, .v (.int .i64 ((i + 1 : Nat) : Int)))]) ?_, i + 1, by omega, rfl, trivial, rfl⟩; ((repeat (first | exact tsok_nil | refine p_pure ?_ | refine p_eq ?_ ?_))))
    obtain rfl : i = t.length := by omega
    repeat' (first | refine walk ?_ | fail | ((first | (apply ops_split_t; rfl; rfl; exact nle rfl) | (apply ops_split_f; rfl; rfl; exact nle rfl) | (apply awp_cond; rfl)); all_goals (intro hc; have hp := hc; first | (simp at hp; done) | ((try simp at hp); first | (exfalso; omega) | skip))) | (apply awp_cond_any; rfl))
    all_goals try (exfalso; omega)
    apply fin_bool
    rfl
    rfl
  · have hL2 : applyL t c v = [] := by unfold applyL; rw [if_neg hz]
    rw [hL2] at h1
    generalize applyE t c v = E at *
    refine acall_intro Tryd.func11 rfl _ Tryd.ntmps11 (Nat.le_of_ble_eq_true rfl) _ Tryd.results11 0 rfl rfl ?_
    repeat' (first | refine walk ?_ | (first | (apply to_call Tryd.func25 rfl rfl; intro hIsFn; refine o_callf hIsFn (a_treeBegun ..) ?_; skip) | (apply to_call Tryd.func21 rfl rfl; intro hIsFn; refine o_callp hIsFn (h1 ..) ?_)) | ((first | (apply ops_split_t; rfl; rfl; exact nle rfl) | (apply ops_split_f; rfl; rfl; exact nle rfl) | (apply awp_cond; rfl)); all_goals (intro hc; have hp := hc; first | (simp at hp; done) | ((try simp at hp); first | (exfalso; omega) | skip))) | (apply awp_cond_any; rfl))
    all_goals try (exfalso; first | omega | (simp_all; done))
    all_goals (apply fin_bool; rfl; simp; done)
theorem law_tgoes_all (ys : List AV) (h : TyAllW C.tab 1000000000 [22, 35, 3] ys) : AFn C.P 11 ys (.v (.bool true)) := by
  obtain ⟨_, _, rfl, h0, _, _, rfl, h1, _, _, rfl, h2, rfl⟩ := h
  obtain ⟨a, rfl, ha⟩ := tyv_ents h0
  obtain ⟨b, rfl, hb⟩ := tyv_chg h1
  obtain ⟨v, rfl, _⟩ := tyv_int h2
  exact law_tgoes a b v ha hb
end Go.Proofs.YtpeenheeakhlgaaDoor
