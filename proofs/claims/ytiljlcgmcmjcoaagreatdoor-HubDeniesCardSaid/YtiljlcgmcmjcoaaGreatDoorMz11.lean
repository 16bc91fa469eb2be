import Derived.Test.YtiljlcgmcmjcoaaGreatDoorMz10
import Derived.Test.YtiljlcgmcmjcoaaGreatDoorMz9
/- Trees, plain, 3: the reference's PutEntry is put, of entries that are right. -/
set_option linter.unusedSimpArgs false
set_option linter.unnecessarySimpa false
set_option linter.unusedVariables false
namespace Go.Proofs.YtiljlcgmcmjcoaaGreatDoor
open Go.Op

end Go.Proofs.YtiljlcgmcmjcoaaGreatDoor

/- Changes in the abstract layer, 6: done, of moves. -/
set_option linter.unusedSimpArgs false
set_option linter.unnecessarySimpa false
set_option linter.unusedVariables false
set_option maxHeartbeats 1000000
namespace Go.Proofs.YtiljlcgmcmjcoaaGreatDoor
open Go.Ab Go.RowKit
set_option maxRecDepth 10000
attribute [local irreducible] Awp Ops OpsX Wanted Red ExOk Go.Ab.Fin ACall Rz RzL RzRows Enters ResOk RenV RenVL ArgV ArgVL

def badUpto (t : List Ent) (c : Chg) (i : Nat) : Bool := ((t.take i).filter (inP c.path)).any fun x => tooGreat (c.to ++ x.path.drop c.path.length)
theorem bad_succ {t : List Ent} {c : Chg} {i : Nat} (h : i < t.length) : badUpto t c (i + 1) = (badUpto t c i || (inB t[i].path c.path && tooGreat (c.to ++ t[i].path.drop c.path.length))) := by
  unfold badUpto
  rw [List.take_succ_eq_append_getElem h, List.filter_append, List.any_append]
  cases hs : inB t[i].path c.path <;> simp [hs, inP]
theorem a_done3_bad (t : List Ent) (c : Chg) (v : Int) (hl : t.length ≤ 1000000) (hk : c.kind = 3) (hgt : ∀ x, x ∈ t → pathErr x.path = 0) (hc1 : pathErr c.path = 0) (hc2 : pathErr c.to = 0) (hbad : moveBad t c = true) :
    ACall C1.P 175 [.os 0 0 t.length, .agg c.row, .v (.int .i64 v)] [.own false 4 (t.map Ent.row)] (.tup [.sl true [], .v (.int .i64 2)]) [.own false 4 (t.map Ent.row)] := by
  have l1 := pathErr_small hc1
  have l2 := pathErr_small hc2
  have hml : (t.map Ent.row).length = t.length := List.length_map ..
  refine acall_intro (C := C1) Tryz.func175 rfl _ Tryz.ntmps175 (Nat.le_of_ble_eq_true rfl) _ Tryz.results175 1 rfl rfl ?_
  repeat' (first | refine walk ?_ | fail | ((first | (apply ops_split_t; rfl; rfl; exact nle rfl) | (apply ops_split_f; rfl; rfl; exact nle rfl) | (apply awp_cond; rfl)); all_goals (intro hc; have hp := hc; first | (simp at hp; done) | ((try simp at hp); first | (exfalso; omega) | skip))) | (apply awp_cond_any; rfl))
  all_goals try (exfalso; omega)
  refine Awp.red (C := C1) (red_nil 8 4 rfl (Nat.le_of_ble_eq_true rfl)) ?_
  (refine Awp.red (red_ren (τ := ⟨[(0, .os 0 0 t.length), (2, .v (.int .i64 v)), (4, .op 1 0 0), (8, .os 2 0 0), (43, .os 0 0 t.length), (44, .v (.int .i64 t.length)), (45, .v (.int .i64 ((0 : Nat) : Int)))], [(0, .own false 4 (t.map Ent.row)), (1, .own false 5 [c.row]), (2, .own false 4 [])], 3⟩) [(1, 1), (2, 2)] rfl ?gts ?ghs) ?gmain; (case gts => (repeat (first | exact tsok_nil | refine p_pure ?_ | refine p_op ?_ | refine p_os ?_ | refine p_eq ?_ ?_))); (case ghs => (repeat (first | exact hsok_nil | refine q_id ?_ | refine q_idx ?_ ?_))))
  refine awp_loop (C := C1) (fun n σ => ∃ i : Nat, i ≤ t.length ∧ n = t.length - i ∧ badUpto t c i = false ∧ σ = ⟨[(0, .os 0 0 t.length), (2, .v (.int .i64 v)), (4, .op 1 0 0), (8, .os 2 0 (goesOf (t.take i) c v).length), (43, .os 0 0 t.length), (44, .v (.int .i64 t.length)), (45, .v (.int .i64 (i : Int)))], [(0, .own false 4 (t.map Ent.row)), (1, .own false 5 [c.row]), (2, .own false 4 ((goesOf (t.take i) c v).map Ent.row))], 3⟩) t.length ⟨0, Nat.zero_le _, rfl, rfl, rfl⟩ ?_
  rintro n σ ⟨i, hi, rfl, hsofar, rfl⟩
  have hgl : (goesOf (t.take i) c v).length ≤ i := by
    unfold goesOf
    rw [List.length_map]
    have h1 : ((t.take i).filter (inP c.path)).length ≤ (t.take i).length := List.length_filter_le ..
    simp at h1; omega
  by_cases hlt : i < t.length
  · have hr := getRow (f := Ent.row) hlt
    have hpx := hgt t[i] (List.getElem_mem _)
    have lx := pathErr_small hpx
    have hin := a_in t[i].path c.path (by omega)
    have hgs := @goes_succ t c v i hlt
    have hmv := a_moved t[i].path c.path c.to (by omega) (by omega) (by omega)
    have hme := @moved_right t[i].path c.path c.to hpx hc1 hc2
    have hbs := @bad_succ t c i hlt
    rw [hsofar] at hbs
    have hmt : ∀ w, (if t[i].path = c.path then v else t[i].ver) = w → (moveTo c v t[i]).row = [.v (str (c.to ++ t[i].path.drop c.path.length)), .v (.bool t[i].fold), .v (str t[i].text), .v (.int .i64 w)] := fun w hw => by simp [moveTo, Ent.row, hw]
    generalize hG : goesOf (t.take i) c v = G at hgl hgs ⊢
    generalize inB t[i].path c.path = I at *
    cases I with
    | false =>
      rw [if_neg (by decide)] at hgs
      have hbs : badUpto t c (i + 1) = false := hbs
      repeat' (first | refine walk ?_ | (first | (refine o_ixo ?_) | (refine o_fzl ?_) | (refine o_appo ?_) | (apply to_call Tryz.func186 rfl rfl; intro hIsFn; refine o_callf hIsFn (hin ..) ?_; skip) | (apply to_call Tryz.func191 rfl rfl; intro hIsFn; refine o_callp hIsFn (hmv ..) ?_)) | ((first | (apply ops_split_t; rfl; rfl; exact nle rfl) | (apply ops_split_f; rfl; rfl; exact nle rfl) | (apply awp_cond; rfl)); all_goals (intro hc; have hp := hc; first | (simp at hp; done) | ((try simp at hp); first | (exfalso; omega) | skip))) | (apply awp_cond_any; rfl))
      all_goals try (exfalso; omega)
      refine ⟨t.length - (i + 1), _, by omega, red_ren (τ := ⟨[(0, .os 0 0 t.length), (2, .v (.int .i64 v)), (4, .op 1 0 0), (8, .os 2 0 (goesOf (t.take (i + 1)) c v).length), (43, .os 0 0 t.length), (44, .v (.int .i64 t.length)), (45, .v (.int .i64 ((i + 1 : Nat) : Int)))], [(0, .own false 4 (t.map Ent.row)), (1, .own false 5 [c.row]), (2, .own false 4 ((goesOf (t.take (i + 1)) c v).map Ent.row))], 3⟩) [(1, 1), (2, 2)] rfl ?gts ?ghs, i + 1, by omega, rfl, (hbs), rfl⟩; (case gts => (repeat (first | exact tsok_nil | refine p_pure ?_ | refine p_op ?_ | refine p_os ?_ | refine p_eq ?_ ?_)); all_goals (rw [hgs])); (case ghs => (repeat (first | exact hsok_nil | refine q_id ?_ | refine q_idx ?_ ?_)); all_goals (rw [hgs]))
    | true =>
      have hme2 := hme rfl
      clear hme
      rw [if_pos rfl] at hgs
      have hlen1 : (goesOf (t.take (i + 1)) c v).length = G.length + 1 := by rw [hgs]; simp
      generalize c.to ++ t[i].path.drop c.path.length = Q at *
      generalize movedErr t[i].path c.path c.to = E at *
      cases hq : tooGreat Q with
      | true =>
        rw [hq, if_pos rfl] at hme2
        subst hme2
        repeat' (first | refine walk ?_ | (first | (refine o_ixo ?_) | (refine o_fzl ?_) | (refine o_appo ?_) | (apply to_call Tryz.func186 rfl rfl; intro hIsFn; refine o_callf hIsFn (hin ..) ?_; skip) | (apply to_call Tryz.func191 rfl rfl; intro hIsFn; refine o_callp hIsFn (hmv ..) ?_)) | ((first | (apply ops_split_t; rfl; rfl; exact nle rfl) | (apply ops_split_f; rfl; rfl; exact nle rfl) | (apply awp_cond; rfl)); all_goals (intro hc; have hp := hc; first | (simp at hp; done) | ((try simp at hp); first | (exfalso; omega) | skip))) | (apply awp_cond_any; rfl))
        all_goals try (exfalso; omega)
        all_goals ((apply fin_ownr (rs := [.tmp 6, .tmp 7]) [] 1; (case hr => (repeat (first | exact resok_nil | (apply resok_tmp; rfl) | (apply resok_cell; rfl; rfl; rfl; rfl; rfl)))); (case hL => rfl); (case hh => (repeat (first | exact hsok_nil | refine q_id ?_ | refine q_idx ?_ ?_)); all_goals trace_state); (case hi => first | exact (rfl : _ = ([] : List (Nat × Nat))) | exact (rfl : _ = [((0 : Nat), (0 : Nat))]) | exact (rfl : _ = [((0 : Nat), (0 : Nat)), (1, 1)])); (case hz => first | rfl | (simp [pack, AV.ren, AV.ren.renL, lookN, getT, enumT]; done) | (simp [pack, AV.ren, AV.ren.renL, lookN, getT, enumT, *]; done) | trace_state)))
      | false =>
        rw [hq, if_neg (by decide)] at hme2
        subst hme2
        rw [hq] at hbs
        have hbs : badUpto t c (i + 1) = false := hbs
        repeat' (first | refine walk ?_ | (first | (refine o_ixo ?_) | (refine o_fzl ?_) | (refine o_appo ?_) | (apply to_call Tryz.func186 rfl rfl; intro hIsFn; refine o_callf hIsFn (hin ..) ?_; skip) | (apply to_call Tryz.func191 rfl rfl; intro hIsFn; refine o_callp hIsFn (hmv ..) ?_)) | ((first | (apply ops_split_t; rfl; rfl; exact nle rfl) | (apply ops_split_f; rfl; rfl; exact nle rfl) | (apply awp_cond; rfl)); all_goals (intro hc; have hp := hc; first | (simp at hp; done) | ((try simp at hp); first | (exfalso; omega) | skip))) | (apply awp_cond_any; rfl))
        all_goals try (exfalso; omega)
        · have hrow := hmt v (if_pos (by assumption))
          clear hmt hin hmv hgt hpx lx hr hq hbad
          refine ⟨t.length - (i + 1), _, by omega, red_ren (τ := ⟨[(0, .os 0 0 t.length), (2, .v (.int .i64 v)), (4, .op 1 0 0), (8, .os 2 0 (goesOf (t.take (i + 1)) c v).length), (43, .os 0 0 t.length), (44, .v (.int .i64 t.length)), (45, .v (.int .i64 ((i + 1 : Nat) : Int)))], [(0, .own false 4 (t.map Ent.row)), (1, .own false 5 [c.row]), (2, .own false 4 ((goesOf (t.take (i + 1)) c v).map Ent.row))], 3⟩) [(1, 1), (4, 2)] rfl ?gts ?ghs, i + 1, by omega, rfl, (hbs), rfl⟩; (case gts => (repeat (first | exact tsok_nil | refine p_pure ?_ | refine p_op ?_ | refine p_os ?_ | refine p_eq ?_ ?_)); all_goals (first | (rw [hlen1]; done) | (rw [hgs, List.map_append, List.take_of_length_le (by simp)]; show _ = _ ++ [(moveTo c v t[i]).row]; rw [hrow]; rfl))); (case ghs => (repeat (first | exact hsok_nil | refine q_id ?_ | refine q_idx ?_ ?_)); all_goals (first | (rw [hlen1]; done) | (rw [hgs, List.map_append, List.take_of_length_le (by simp)]; show _ = _ ++ [(moveTo c v t[i]).row]; rw [hrow]; rfl)))
        · have hrow := hmt t[i].ver (if_neg (by assumption))
          clear hmt hin hmv hgt hpx lx hr hq hbad
          refine ⟨t.length - (i + 1), _, by omega, red_ren (τ := ⟨[(0, .os 0 0 t.length), (2, .v (.int .i64 v)), (4, .op 1 0 0), (8, .os 2 0 (goesOf (t.take (i + 1)) c v).length), (43, .os 0 0 t.length), (44, .v (.int .i64 t.length)), (45, .v (.int .i64 ((i + 1 : Nat) : Int)))], [(0, .own false 4 (t.map Ent.row)), (1, .own false 5 [c.row]), (2, .own false 4 ((goesOf (t.take (i + 1)) c v).map Ent.row))], 3⟩) [(1, 1), (4, 2)] rfl ?gts ?ghs, i + 1, by omega, rfl, (hbs), rfl⟩; (case gts => (repeat (first | exact tsok_nil | refine p_pure ?_ | refine p_op ?_ | refine p_os ?_ | refine p_eq ?_ ?_)); all_goals (first | (rw [hlen1]; done) | (rw [hgs, List.map_append, List.take_of_length_le (by simp)]; show _ = _ ++ [(moveTo c v t[i]).row]; rw [hrow]; rfl))); (case ghs => (repeat (first | exact hsok_nil | refine q_id ?_ | refine q_idx ?_ ?_)); all_goals (first | (rw [hlen1]; done) | (rw [hgs, List.map_append, List.take_of_length_le (by simp)]; show _ = _ ++ [(moveTo c v t[i]).row]; rw [hrow]; rfl)))
  · obtain rfl : i = t.length := by omega
    unfold badUpto at hsofar
    rw [List.take_length] at hsofar
    simp only [moveBad, hk, hsofar] at hbad
    simp at hbad
theorem a_done3_ok (t : List Ent) (c : Chg) (v : Int) (hl : t.length ≤ 400000) (hk : c.kind = 3) (hgt : ∀ x, x ∈ t → pathErr x.path = 0) (hc1 : pathErr c.path = 0) (hc2 : pathErr c.to = 0) (hbad : moveBad t c = false) (hs : rising entLt t = true) :
    ACall C1.P 175 [.os 0 0 t.length, .agg c.row, .v (.int .i64 v)] [.own false 4 (t.map Ent.row)] (resAV (doneE t c v) (doneL t c v).length) [.dead, .own false 4 ((doneL t c v).map Ent.row)] := by
  have l1 := pathErr_small hc1
  have l2 := pathErr_small hc2
  have hnb : ∀ x, x ∈ t → inB x.path c.path = true → tooGreat (c.to ++ x.path.drop c.path.length) = false := fun x hx hi => by
    simp only [moveBad, hk, decide_true, Bool.true_and, List.any_eq_false] at hbad
    simpa using hbad x (List.mem_filter.2 ⟨hx, hi⟩)
  have hwo := a_without t c.path (by omega) (by omega)
  have hD : doneL t c v = (goesOf t c v).foldl putT (keepE (inP c.path) t) := by simp [doneL, hk]
  have hE : doneE t c v = if 60 < (doneL t c v).length then 2 else 0 := by simp [doneE, hbad]
  have hkl : (keepE (inP c.path) t).length ≤ t.length := List.length_filter_le ..
  have hkr := keepE_rising (p := inP c.path) hs
  have hml : (t.map Ent.row).length = t.length := List.length_map ..
  refine acall_intro (C := C1) Tryz.func175 rfl _ Tryz.ntmps175 (Nat.le_of_ble_eq_true rfl) _ Tryz.results175 1 rfl rfl ?_
  repeat' (first | refine walk ?_ | fail | ((first | (apply ops_split_t; rfl; rfl; exact nle rfl) | (apply ops_split_f; rfl; rfl; exact nle rfl) | (apply awp_cond; rfl)); all_goals (intro hc; have hp := hc; first | (simp at hp; done) | ((try simp at hp); first | (exfalso; omega) | skip))) | (apply awp_cond_any; rfl))
  all_goals try (exfalso; omega)
  refine Awp.red (C := C1) (red_nil 8 4 rfl (Nat.le_of_ble_eq_true rfl)) ?_
  (refine Awp.red (red_ren (τ := ⟨[(0, .os 0 0 t.length), (2, .v (.int .i64 v)), (4, .op 1 0 0), (8, .os 2 0 0), (43, .os 0 0 t.length), (44, .v (.int .i64 t.length)), (45, .v (.int .i64 ((0 : Nat) : Int)))], [(0, .own false 4 (t.map Ent.row)), (1, .own false 5 [c.row]), (2, .own false 4 [])], 3⟩) [(1, 1), (2, 2)] rfl ?gts ?ghs) ?gmain; (case gts => (repeat (first | exact tsok_nil | refine p_pure ?_ | refine p_op ?_ | refine p_os ?_ | refine p_eq ?_ ?_))); (case ghs => (repeat (first | exact hsok_nil | refine q_id ?_ | refine q_idx ?_ ?_))))
  refine awp_loop (C := C1) (fun n σ => ∃ i : Nat, i ≤ t.length ∧ n = t.length - i ∧ True ∧ σ = ⟨[(0, .os 0 0 t.length), (2, .v (.int .i64 v)), (4, .op 1 0 0), (8, .os 2 0 (goesOf (t.take i) c v).length), (43, .os 0 0 t.length), (44, .v (.int .i64 t.length)), (45, .v (.int .i64 (i : Int)))], [(0, .own false 4 (t.map Ent.row)), (1, .own false 5 [c.row]), (2, .own false 4 ((goesOf (t.take i) c v).map Ent.row))], 3⟩) t.length ⟨0, Nat.zero_le _, rfl, trivial, rfl⟩ ?_
  rintro n σ ⟨i, hi, rfl, -, rfl⟩
  have hgl : (goesOf (t.take i) c v).length ≤ i := by
    unfold goesOf
    rw [List.length_map]
    have h1 : ((t.take i).filter (inP c.path)).length ≤ (t.take i).length := List.length_filter_le ..
    simp at h1; omega
  by_cases hlt : i < t.length
  · have hr := getRow (f := Ent.row) hlt
    have hpx := hgt t[i] (List.getElem_mem _)
    have lx := pathErr_small hpx
    have hin := a_in t[i].path c.path (by omega)
    have hgs := @goes_succ t c v i hlt
    have hmv := a_moved t[i].path c.path c.to (by omega) (by omega) (by omega)
    have hme := @moved_right t[i].path c.path c.to hpx hc1 hc2
    have hnb1 := hnb t[i] (List.getElem_mem _)
    have hmt : ∀ w, (if t[i].path = c.path then v else t[i].ver) = w → (moveTo c v t[i]).row = [.v (str (c.to ++ t[i].path.drop c.path.length)), .v (.bool t[i].fold), .v (str t[i].text), .v (.int .i64 w)] := fun w hw => by simp [moveTo, Ent.row, hw]
    generalize hG : goesOf (t.take i) c v = G at hgl hgs ⊢
    generalize inB t[i].path c.path = I at *
    cases I with
    | false =>
      rw [if_neg (by decide)] at hgs
      repeat' (first | refine walk ?_ | (first | (refine o_ixo ?_) | (refine o_fzl ?_) | (refine o_appo ?_) | (apply to_call Tryz.func186 rfl rfl; intro hIsFn; refine o_callf hIsFn (hin ..) ?_; skip) | (apply to_call Tryz.func191 rfl rfl; intro hIsFn; refine o_callp hIsFn (hmv ..) ?_)) | ((first | (apply ops_split_t; rfl; rfl; exact nle rfl) | (apply ops_split_f; rfl; rfl; exact nle rfl) | (apply awp_cond; rfl)); all_goals (intro hc; have hp := hc; first | (simp at hp; done) | ((try simp at hp); first | (exfalso; omega) | skip))) | (apply awp_cond_any; rfl))
      all_goals try (exfalso; omega)
      refine ⟨t.length - (i + 1), _, by omega, red_ren (τ := ⟨[(0, .os 0 0 t.length), (2, .v (.int .i64 v)), (4, .op 1 0 0), (8, .os 2 0 (goesOf (t.take (i + 1)) c v).length), (43, .os 0 0 t.length), (44, .v (.int .i64 t.length)), (45, .v (.int .i64 ((i + 1 : Nat) : Int)))], [(0, .own false 4 (t.map Ent.row)), (1, .own false 5 [c.row]), (2, .own false 4 ((goesOf (t.take (i + 1)) c v).map Ent.row))], 3⟩) [(1, 1), (2, 2)] rfl ?gts ?ghs, i + 1, by omega, rfl, trivial, rfl⟩; (case gts => (repeat (first | exact tsok_nil | refine p_pure ?_ | refine p_op ?_ | refine p_os ?_ | refine p_eq ?_ ?_)); all_goals (rw [hgs])); (case ghs => (repeat (first | exact hsok_nil | refine q_id ?_ | refine q_idx ?_ ?_)); all_goals (rw [hgs]))
    | true =>
      have hme2 := hme rfl
      clear hme
      rw [if_pos rfl] at hgs
      have hlen1 : (goesOf (t.take (i + 1)) c v).length = G.length + 1 := by rw [hgs]; simp
      generalize c.to ++ t[i].path.drop c.path.length = Q at *
      generalize movedErr t[i].path c.path c.to = E at *
      have hq : tooGreat Q = false := hnb1 rfl
      rw [hq, if_neg (by decide)] at hme2
      subst hme2
      repeat' (first | refine walk ?_ | (first | (refine o_ixo ?_) | (refine o_fzl ?_) | (refine o_appo ?_) | (apply to_call Tryz.func186 rfl rfl; intro hIsFn; refine o_callf hIsFn (hin ..) ?_; skip) | (apply to_call Tryz.func191 rfl rfl; intro hIsFn; refine o_callp hIsFn (hmv ..) ?_)) | ((first | (apply ops_split_t; rfl; rfl; exact nle rfl) | (apply ops_split_f; rfl; rfl; exact nle rfl) | (apply awp_cond; rfl)); all_goals (intro hc; have hp := hc; first | (simp at hp; done) | ((try simp at hp); first | (exfalso; omega) | skip))) | (apply awp_cond_any; rfl))
      all_goals try (exfalso; omega)
      · have hrow := hmt v (if_pos (by assumption))
        clear hmt hin hmv hgt hpx lx hr hq hnb hnb1 hwo hE hD
        refine ⟨t.length - (i + 1), _, by omega, red_ren (τ := ⟨[(0, .os 0 0 t.length), (2, .v (.int .i64 v)), (4, .op 1 0 0), (8, .os 2 0 (goesOf (t.take (i + 1)) c v).length), (43, .os 0 0 t.length), (44, .v (.int .i64 t.length)), (45, .v (.int .i64 ((i + 1 : Nat) : Int)))], [(0, .own false 4 (t.map Ent.row)), (1, .own false 5 [c.row]), (2, .own false 4 ((goesOf (t.take (i + 1)) c v).map Ent.row))], 3⟩) [(1, 1), (4, 2)] rfl ?gts ?ghs, i + 1, by omega, rfl, trivial, rfl⟩; (case gts => (repeat (first | exact tsok_nil | refine p_pure ?_ | refine p_op ?_ | refine p_os ?_ | refine p_eq ?_ ?_)); all_goals (first | (rw [hlen1]; done) | (rw [hgs, List.map_append, List.take_of_length_le (by simp)]; show _ = _ ++ [(moveTo c v t[i]).row]; rw [hrow]; rfl))); (case ghs => (repeat (first | exact hsok_nil | refine q_id ?_ | refine q_idx ?_ ?_)); all_goals (first | (rw [hlen1]; done) | (rw [hgs, List.map_append, List.take_of_length_le (by simp)]; show _ = _ ++ [(moveTo c v t[i]).row]; rw [hrow]; rfl)))
      · have hrow := hmt t[i].ver (if_neg (by assumption))
        clear hmt hin hmv hgt hpx lx hr hq hnb hnb1 hwo hE hD
        refine ⟨t.length - (i + 1), _, by omega, red_ren (τ := ⟨[(0, .os 0 0 t.length), (2, .v (.int .i64 v)), (4, .op 1 0 0), (8, .os 2 0 (goesOf (t.take (i + 1)) c v).length), (43, .os 0 0 t.length), (44, .v (.int .i64 t.length)), (45, .v (.int .i64 ((i + 1 : Nat) : Int)))], [(0, .own false 4 (t.map Ent.row)), (1, .own false 5 [c.row]), (2, .own false 4 ((goesOf (t.take (i + 1)) c v).map Ent.row))], 3⟩) [(1, 1), (4, 2)] rfl ?gts ?ghs, i + 1, by omega, rfl, trivial, rfl⟩; (case gts => (repeat (first | exact tsok_nil | refine p_pure ?_ | refine p_op ?_ | refine p_os ?_ | refine p_eq ?_ ?_)); all_goals (first | (rw [hlen1]; done) | (rw [hgs, List.map_append, List.take_of_length_le (by simp)]; show _ = _ ++ [(moveTo c v t[i]).row]; rw [hrow]; rfl))); (case ghs => (repeat (first | exact hsok_nil | refine q_id ?_ | refine q_idx ?_ ?_)); all_goals (first | (rw [hlen1]; done) | (rw [hgs, List.map_append, List.take_of_length_le (by simp)]; show _ = _ ++ [(moveTo c v t[i]).row]; rw [hrow]; rfl)))
  obtain rfl : i = t.length := by omega
  have hgl2 : (goesOf t c v).length ≤ t.length := by rw [List.take_length] at hgl; exact hgl
  rw [List.take_length]
  generalize hK : keepE (inP c.path) t = K at *
  generalize hGo : goesOf t c v = G at *
  generalize doneE t c v = E at *
  clear hnb hgl
  repeat' (first | refine walk ?_ | (first | (apply to_call Tryz.func190 rfl rfl; intro hIsFn; refine o_callh ([0]) 0 hIsFn (hwo ..) ?_)) | ((first | (apply ops_split_t; rfl; rfl; exact nle rfl) | (apply ops_split_f; rfl; rfl; exact nle rfl) | (apply awp_cond; rfl)); all_goals (intro hc; have hp := hc; first | (simp at hp; done) | ((try simp at hp); first | (exfalso; omega) | skip))) | (apply awp_cond_any; rfl))
  all_goals try (exfalso; omega)
  refine Awp.red (C := C1) (red_move 0 0 K.length rfl rfl (List.take_of_length_le (by simp)) (Nat.ne_of_beq_eq_false rfl) (Nat.le_of_ble_eq_true rfl)) ?_
  (refine Awp.red (red_ren (τ := ⟨[(0, .os 2 0 ((G.take 0).foldl putT K).length), (86, .os 1 0 G.length), (87, .v (.int .i64 G.length)), (88, .v (.int .i64 ((0 : Nat) : Int)))], [(1, .own false 4 (G.map Ent.row)), (2, .own false 4 (((G.take 0).foldl putT K).map Ent.row))], 3⟩) [(2, 1), (3, 2)] rfl ?gts2 ?ghs2) ?gmain2; (case gts2 => (repeat (first | exact tsok_nil | refine p_pure ?_ | refine p_op ?_ | refine p_os ?_ | refine p_eq ?_ ?_)); all_goals skip); (case ghs2 => (repeat (first | exact hsok_nil | refine q_id ?_ | refine q_idx ?_ ?_))))
  refine awp_loop (C := C1) (fun n σ => ∃ i : Nat, i ≤ G.length ∧ n = G.length - i ∧ True ∧ σ = ⟨[(0, .os 2 0 ((G.take i).foldl putT K).length), (86, .os 1 0 G.length), (87, .v (.int .i64 G.length)), (88, .v (.int .i64 (i : Int)))], [(1, .own false 4 (G.map Ent.row)), (2, .own false 4 (((G.take i).foldl putT K).map Ent.row))], 3⟩) G.length ⟨0, Nat.zero_le _, rfl, trivial, rfl⟩ ?_
  rintro n σ ⟨i, hi, rfl, -, rfl⟩
  have hLr := putAll_rising (l := G.take i) hkr
  have hLl := putAll_len (G.take i) K
  have hLs := fun h => @putAll_succ G K i h
  have htl : (G.take i).length ≤ G.length := by simp; omega
  by_cases hlt : i < G.length
  · have hr := getRow (f := Ent.row) hlt
    have hLs := hLs hlt
    generalize (G.take i).foldl putT K = L at *
    have hput := a_put L G[i] (by omega) hLr
    rw [← hLs] at hput
    repeat' (first | refine walk ?_ | (first | (refine o_ixo ?_) | (apply to_call Tryz.func189 rfl rfl; intro hIsFn; refine o_callg ([2]) 2 hIsFn (hput ..) ?_)) | ((first | (apply ops_split_t; rfl; rfl; exact nle rfl) | (apply ops_split_f; rfl; rfl; exact nle rfl) | (apply awp_cond; rfl)); all_goals (intro hc; have hp := hc; first | (simp at hp; done) | ((try simp at hp); first | (exfalso; omega) | skip))) | (apply awp_cond_any; rfl))
    all_goals try (exfalso; omega)
    clear hLr hLl hput hr hwo hE hD hkr
    refine ⟨G.length - (i + 1), _, by omega, red_ren (τ := ⟨[(0, .os 2 0 ((G.take (i + 1)).foldl putT K).length), (86, .os 1 0 G.length), (87, .v (.int .i64 G.length)), (88, .v (.int .i64 ((i + 1 : Nat) : Int)))], [(1, .own false 4 (G.map Ent.row)), (2, .own false 4 (((G.take (i + 1)).foldl putT K).map Ent.row))], 3⟩) [(1, 1), (4, 2)] rfl ?gts ?ghs, i + 1, by omega, rfl, trivial, rfl⟩; (case gts => (repeat (first | exact tsok_nil | refine p_pure ?_ | refine p_op ?_ | refine p_os ?_ | refine p_eq ?_ ?_))); (case ghs => (repeat (first | exact hsok_nil | refine q_id ?_ | refine q_idx ?_ ?_)))
  obtain rfl : i = G.length := by omega
  rw [List.take_length] at *
  rw [← hD] at *
  generalize doneL t c v = L at *
  by_cases h60 : 60 < L.length
  · rw [if_pos h60] at hE
    subst hE
    repeat' (first | refine walk ?_ | fail | ((first | (apply ops_split_t; rfl; rfl; exact nle rfl) | (apply ops_split_f; rfl; rfl; exact nle rfl) | (apply awp_cond; rfl)); all_goals (intro hc; have hp := hc; first | (simp at hp; done) | ((try simp at hp); first | (exfalso; omega) | skip))) | (apply awp_cond_any; rfl))
    all_goals try (exfalso; omega)
    (apply fin_ownr (rs := [.tmp 6, .tmp 7]) [(2, 1)] 2; (case hr => (repeat (first | exact resok_nil | (apply resok_tmp; rfl) | (apply resok_cell; rfl; rfl; rfl; rfl; rfl)))); (case hL => rfl); (case hh => (apply hsok_dead 0; exact maps_low rfl; (repeat (first | exact hsok_nil | refine q_id ?_ | refine q_idx ?_ ?_))); all_goals trace_state); (case hi => first | exact (rfl : _ = ([] : List (Nat × Nat))) | exact (rfl : _ = [((0 : Nat), (0 : Nat))]) | exact (rfl : _ = [((0 : Nat), (0 : Nat)), (1, 1)])); (case hz => first | rfl | (simp [pack, AV.ren, AV.ren.renL, lookN, getT, enumT]; done) | (simp [pack, AV.ren, AV.ren.renL, lookN, getT, enumT, *]; done) | trace_state))
  · rw [if_neg h60] at hE
    subst hE
    repeat' (first | refine walk ?_ | fail | ((first | (apply ops_split_t; rfl; rfl; exact nle rfl) | (apply ops_split_f; rfl; rfl; exact nle rfl) | (apply awp_cond; rfl)); all_goals (intro hc; have hp := hc; first | (simp at hp; done) | ((try simp at hp); first | (exfalso; omega) | skip))) | (apply awp_cond_any; rfl))
    all_goals try (exfalso; omega)
    (apply fin_ownr (rs := [.tmp 6, .tmp 7]) [(2, 1)] 2; (case hr => (repeat (first | exact resok_nil | (apply resok_tmp; rfl) | (apply resok_cell; rfl; rfl; rfl; rfl; rfl)))); (case hL => rfl); (case hh => (apply hsok_dead 0; exact maps_low rfl; (repeat (first | exact hsok_nil | refine q_id ?_ | refine q_idx ?_ ?_))); all_goals trace_state); (case hi => first | exact (rfl : _ = ([] : List (Nat × Nat))) | exact (rfl : _ = [((0 : Nat), (0 : Nat))]) | exact (rfl : _ = [((0 : Nat), (0 : Nat)), (1, 1)])); (case hz => first | rfl | (simp [pack, AV.ren, AV.ren.renL, lookN, getT, enumT]; done) | (simp [pack, AV.ren, AV.ren.renL, lookN, getT, enumT, *]; done) | trace_state))
end Go.Proofs.YtiljlcgmcmjcoaaGreatDoor

/- Paths, plain, 2: what PathApart and PathBack ask. -/
set_option linter.unusedSimpArgs false
set_option linter.unnecessarySimpa false
namespace Go.Proofs.YtiljlcgmcmjcoaaGreatDoor

theorem isName_iff {s : Str} : isName s = true ↔ s ≠ [] ∧ s.length ≤ 20 ∧ s ≠ [46] ∧ s ≠ [46, 46] ∧ s.head? ≠ some 32 ∧ s.getLast? ≠ some 32 ∧ ∀ c, c ∈ s → okB c = true := by
  simp [isName, and_assoc]
theorem isName_free {s : Str} (h : isName s = true) : (47 : UInt8) ∉ s := fun hm => by
  have := (isName_iff.1 h).2.2.2.2.2.2 47 hm
  exact absurd this (by decide)
theorem isName_nil : isName [] = false := by simp [isName]
theorem pathErr_zero {p : Str} : pathErr p = 0 ↔ (∀ n, n ∈ namesOf p → isName n = true) ∧ tooGreat p = false := by
  unfold pathErr
  constructor
  · intro h
    split at h
    · rename_i h1
      split at h
      · exact absurd h (by decide)
      · rename_i h2
        exact ⟨List.all_eq_true.1 h1, by simpa using h2⟩
    · exact absurd h (by decide)
  · rintro ⟨h1, h2⟩
    rw [if_pos (List.all_eq_true.2 h1), h2]; rfl
theorem parent_at {a b : Str} (h : (47 : UInt8) ∉ b) : parentOf (a ++ 47 :: b) = a ∧ lastOf (a ++ 47 :: b) = b := by
  rw [parentOf, lastOf, lastIdx_at h]
  refine ⟨by rw [show (a.length : Int).toNat = a.length from by omega, List.take_left], ?_⟩
  rw [show ((a.length : Int) + 1).toNat = a.length + 1 from by omega, List.drop_append, List.drop_of_length_le (by omega), List.nil_append, show a.length + 1 - a.length = 1 from by omega]; rfl
theorem pathsErr_zero {p : Str} {l : List Str} : pathsErr (p :: l) = 0 ↔ pathErr p = 0 ∧ pathsErr l = 0 := by
  show (if pathErr p = 0 then pathsErr l else pathErr p) = 0 ↔ _
  split
  · rename_i h; simp [h]
  · rename_i h; simp [h]
theorem back_moved {p f t : Str} (h : movedErr p f t = 0) :
    movedErr (t ++ p.drop f.length) t f = 0 ∧ pathsErr [t ++ p.drop f.length, t] = 0 ∧ inB (t ++ p.drop f.length) t = true ∧ f ++ (t ++ p.drop f.length).drop t.length = p := by
  unfold movedErr at h
  split at h
  case isFalse h' => exact absurd h h'
  rename_i h0
  split at h
  case isFalse => exact absurd h (by decide)
  rename_i hi
  split at h
  case isTrue => exact absurd h (by decide)
  rename_i hg
  obtain ⟨hp, h1⟩ := pathsErr_zero.1 h0
  obtain ⟨hf, h2⟩ := pathsErr_zero.1 h1
  obtain ⟨ht, -⟩ := pathsErr_zero.1 h2
  obtain ⟨np, gp⟩ := pathErr_zero.1 hp
  obtain ⟨nt, -⟩ := pathErr_zero.1 ht
  have hr := moved_ref (t := t) hi
  have hall : ∀ n, n ∈ namesOf t ++ (namesOf p).drop (namesOf f).length → isName n = true := fun n hm => by
    rcases List.mem_append.1 hm with hm | hm
    · exact nt n hm
    · exact np n (List.mem_of_mem_drop hm)
  have hnm : namesOf (t ++ p.drop f.length) = namesOf t ++ (namesOf p).drop (namesOf f).length := by
    rw [← hr]
    exact names_path (by simp [namesOf_ne]) fun n hm => isName_free (hall n hm)
  have hm : pathErr (t ++ p.drop f.length) = 0 := pathErr_zero.2 ⟨by rw [hnm]; exact hall, by simpa using hg⟩
  have hb : inB (t ++ p.drop f.length) t = true := by
    rw [inB_ref, hnm, List.isPrefixOf_iff_prefix]; exact List.prefix_append ..
  have hpre : f ++ p.drop f.length = p := by
    simp only [inB, Bool.or_eq_true, decide_eq_true_eq, List.isPrefixOf_iff_prefix] at hi
    rcases hi with rfl | ⟨s, rfl⟩
    · simp
    · rw [List.append_assoc, List.drop_left]
  have hback : f ++ (t ++ p.drop f.length).drop t.length = p := by rw [List.drop_left]; exact hpre
  refine ⟨?_, ?_, hb, hback⟩
  · unfold movedErr
    rw [if_pos (pathsErr_zero.2 ⟨hm, pathsErr_zero.2 ⟨ht, pathsErr_zero.2 ⟨hf, rfl⟩⟩⟩), if_pos hb, hback, gp]; rfl
  · exact pathsErr_zero.2 ⟨hm, pathsErr_zero.2 ⟨ht, rfl⟩⟩

end Go.Proofs.YtiljlcgmcmjcoaaGreatDoor

/- Paths, plain, 2: under the name that the trees know it by. -/

/- Changes in the abstract layer, 7: what is right stays right; Raw. -/
set_option linter.unusedSimpArgs false
set_option linter.unnecessarySimpa false
set_option linter.unusedVariables false
set_option maxHeartbeats 1000000
namespace Go.Proofs.YtiljlcgmcmjcoaaGreatDoor
open Go.Ab Go.RowKit
set_option maxRecDepth 10000
attribute [local irreducible] Awp Ops OpsX Wanted Red ExOk Go.Ab.Fin ACall Rz RzL RzRows Enters ResOk RenV RenVL ArgV ArgVL

structure RightE (t : List Ent) : Prop where
  rise : rising entLt t = true
  paths : ∀ x, x ∈ t → pathErr x.path = 0
  few : t.length ≤ 400000
def rawE (t : List Ent) (c : Chg) (v : Int) : Int := if ¬ chgErr c = 0 then chgErr c else if ¬ mayErr t c = 0 then mayErr t c else doneE t c v
def rawL (t : List Ent) (c : Chg) (v : Int) : List Ent := if rawE t c v = 0 then doneL t c v else []
theorem chgErr_zero {c : Chg} (h : chgErr c = 0) : 1 ≤ c.kind ∧ c.kind ≤ 4 ∧ pathErr c.path = 0 ∧ (c.kind = 3 → pathErr c.to = 0) ∧ chgRest c = 0 := by
  unfold chgErr at h
  split at h
  · exact absurd h (by decide)
  · split at h
    · contradiction
    · rename_i h1 h2
      split at h
      · rename_i h3; exact absurd h h3.2
      · rename_i h3
        refine ⟨by omega, by omega, by simpa using h2, fun h4 => ?_, h⟩
        have h5 := fun e => h3 ⟨h4, e⟩
        simpa using h5
theorem mem_putT {t : List Ent} {x y : Ent} (h : y ∈ putT t x) : y = x ∨ y ∈ t := by
  unfold putT at h
  split at h
  · rcases List.mem_append.1 h with h | h
    · exact .inr (List.mem_of_mem_take h)
    · rcases List.mem_append.1 h with h | h
      · exact .inl (List.mem_singleton.1 h)
      · exact .inr (List.mem_of_mem_drop h)
  · rcases List.mem_append.1 h with h | h
    · exact .inr (List.mem_of_mem_take h)
    · rcases List.mem_append.1 h with h | h
      · exact .inl (List.mem_singleton.1 h)
      · exact .inr (List.mem_of_mem_drop h)
theorem mem_putAll : ∀ {l t : List Ent} {y : Ent}, y ∈ l.foldl putT t → y ∈ l ∨ y ∈ t
  | [], _, _, h => .inr h
  | x :: l, t, y, h => by
    rcases mem_putAll (l := l) (t := putT t x) h with h | h
    · exact .inl (List.mem_cons_of_mem _ h)
    · rcases mem_putT h with rfl | h
      · exact .inl (List.mem_cons_self ..)
      · exact .inr h
theorem moveTo_right {c : Chg} {v : Int} {x : Ent} (hx : pathErr x.path = 0) (h1 : pathErr c.path = 0) (h2 : pathErr c.to = 0) (hi : inB x.path c.path = true) (hg : tooGreat (c.to ++ x.path.drop c.path.length) = false) : pathErr (moveTo c v x).path = 0 := by
  have hm := moved_right hx h1 h2 hi
  rw [hg, if_neg (by decide)] at hm
  have := (back_moved hm).2.1
  exact (pathsErr_zero.1 this).1
theorem done_ok {t : List Ent} {c : Chg} {v : Int} (h : doneE t c v = 0) : moveBad t c = false ∧ (doneL t c v).length ≤ 60 := by
  unfold doneE at h
  split at h
  · exact absurd h (by decide)
  · split at h
    · exact absurd h (by decide)
    · rename_i h1 h2
      exact ⟨by simpa using h1, by omega⟩
theorem doneL_paths {t : List Ent} {c : Chg} {v : Int} (ht : ∀ x, x ∈ t → pathErr x.path = 0) (hce : chgErr c = 0) (hbad : moveBad t c = false) : ∀ x, x ∈ doneL t c v → pathErr x.path = 0 := by
  obtain ⟨k1, k2, hpe, hto, -⟩ := chgErr_zero hce
  intro x hx
  unfold doneL at hx
  split at hx
  · rcases mem_putT hx with rfl | h
    · exact hpe
    · exact ht x h
  · split at hx
    · rcases mem_putT hx with rfl | h
      · exact hpe
      · exact ht x h
    · split at hx
      · exact ht x (List.mem_filter.1 hx).1
      · have k3 : c.kind = 3 := by omega
        rcases mem_putAll hx with h | h
        · obtain ⟨y, hy, rfl⟩ := List.mem_map.1 h
          obtain ⟨hy1, hy2⟩ := List.mem_filter.1 hy
          simp only [moveBad, k3, decide_true, Bool.true_and, List.any_eq_false] at hbad
          exact moveTo_right (ht y hy1) hpe (hto k3) hy2 (by simpa using hbad y hy)
        · exact ht x (List.mem_filter.1 h).1
theorem doneL_rising {t : List Ent} {c : Chg} {v : Int} (hs : rising entLt t = true) : rising entLt (doneL t c v) = true := by
  unfold doneL
  split
  · exact putT_rising hs
  · split
    · exact putT_rising hs
    · split
      · exact keepE_rising hs
      · exact putAll_rising (keepE_rising hs)
theorem doneL_len (t : List Ent) (c : Chg) (v : Int) : (doneL t c v).length ≤ 2 * t.length + 1 := by
  have h1 := fun x => putT_len t x
  have h2 : (keepE (inP c.path) t).length ≤ t.length := List.length_filter_le ..
  have h3 : (goesOf t c v).length ≤ t.length := by unfold goesOf; rw [List.length_map]; exact List.length_filter_le ..
  have h4 := putAll_len (goesOf t c v) (keepE (inP c.path) t)
  unfold doneL
  split
  · have := h1 ⟨c.path, true, [], v⟩; omega
  · split
    · have := h1 ⟨c.path, false, c.text, v⟩; omega
    · split <;> omega
theorem RightE.done {t : List Ent} {c : Chg} {v : Int} (h : RightE t) (hr : rawE t c v = 0) : RightE (doneL t c v) := by
  unfold rawE at hr
  split at hr
  · contradiction
  · split at hr
    · contradiction
    · rename_i h1 h2
      obtain ⟨h3, h4⟩ := done_ok hr
      exact ⟨doneL_rising h.rise, doneL_paths h.paths (by simpa using h1) h3, by omega⟩
theorem a_done (t : List Ent) (c : Chg) (v : Int) (h : RightE t) (hce : chgErr c = 0) (hbad : moveBad t c = false) :
    ACall C1.P 175 [.os 0 0 t.length, .agg c.row, .v (.int .i64 v)] [.own false 4 (t.map Ent.row)] (resAV (doneE t c v) (doneL t c v).length) [.dead, .own false 4 ((doneL t c v).map Ent.row)] := by
  obtain ⟨k1, k2, hpe, hto, -⟩ := chgErr_zero hce
  have hf := h.few
  have hl := doneL_len t c v
  have hps := pathErr_small hpe
  by_cases h1 : c.kind = 1
  · exact a_done1 t c v (by omega) h.rise h1 (by omega)
  · by_cases h2 : c.kind = 2
    · exact a_done2 t c v (by omega) h.rise h2 (by omega)
    · by_cases h4 : c.kind = 4
      · exact a_done4 t c v (by omega) h4 (by omega)
      · have h3 : c.kind = 3 := by omega
        exact a_done3_ok t c v hf h3 h.paths hpe (hto h3) hbad h.rise
theorem rawL_bad {t : List Ent} {c : Chg} {v : Int} (h : ¬ rawE t c v = 0) : rawL t c v = [] := by unfold rawL; rw [if_neg h]
theorem a_rawT (t : List Ent) (c : Chg) (v : Int) (h : RightE t) (hcs : c.small) : AFn C.P 149 [entAV t, .agg c.row, .v (.int .i64 v)] (.tup [entAV (rawL t c v), .v (.int .i64 (rawE t c v))]) := by
  have hf := h.few
  have h1 := a_form c hcs
  have h2 := a_may t c (by omega) h.rise hcs
  have h3 := a_cloneE t (by omega)
  have hR : rawE t c v = if ¬ chgErr c = 0 then chgErr c else if ¬ mayErr t c = 0 then mayErr t c else doneE t c v := rfl
  have hbadL := @rawL_bad t c v
  by_cases hce : chgErr c = 0
  · by_cases hme : mayErr t c = 0
    · have hR2 : rawE t c v = doneE t c v := by rw [hR, if_neg (by simp [hce]), if_neg (by simp [hme])]
      rw [hce] at h1
      rw [hme] at h2
      cases hb : moveBad t c with
      | true =>
        obtain ⟨k1, k2, hpe, hto, -⟩ := chgErr_zero hce
        have hk3 : c.kind = 3 := by
          simp [moveBad] at hb; exact hb.1
        have hE : doneE t c v = 2 := by simp [doneE, hb]
        have hd := a_done3_bad t c v (by omega) hk3 h.paths hpe (hto hk3) hb
        rw [hE] at hR2
        rw [hbadL (by rw [hR2]; decide), hR2]
        refine acall_intro Tryz.func149 rfl _ Tryz.ntmps149 (Nat.le_of_ble_eq_true rfl) _ Tryz.results149 0 rfl rfl ?_
        repeat' (first | refine walk ?_ | (first | (apply to_call Tryz.func173 rfl rfl; intro hIsFn; refine o_callf hIsFn (h1 ..) ?_; skip) | (apply to_call Tryz.func174 rfl rfl; intro hIsFn; refine o_callf hIsFn (h2 ..) ?_; skip) | (apply to_call Tryz.func101 rfl rfl; intro hIsFn; refine o_callo ([]) hIsFn (h3 ..) ?_) | (apply to_call Tryz.func175 rfl rfl; intro hIsFn; refine o_callh ([1]) 1 hIsFn (hd ..) ?_)) | ((first | (apply awp_cond; rfl)); all_goals (intro hc; have hp := hc; first | (simp at hp; done) | ((try simp at hp); first | (exfalso; omega) | skip))) | (apply awp_cond_any; rfl))
        all_goals try (exfalso; omega)
        (refine f_pure (rs := [.tmp 6, .tmp 7]) ?_; (repeat' (first | exact rzl_nil | apply rzl_cons | exact rz_pure rfl | exact rz_ex | exact z_os | apply rz_agg | apply rz_tup | apply rz_clo | apply rz_int | apply rz_bool | apply rz_str | refine z_eq ?_ | apply rz_sl)); all_goals trace_state)
      | false =>
        have hd := a_done t c v h hce hb
        by_cases hE : doneE t c v = 0
        · have hL : rawL t c v = doneL t c v := by unfold rawL; rw [if_pos (by rw [hR2, hE])]
          rw [hE] at hR2 hd
          rw [hL, hR2]
          generalize doneL t c v = L at *
          have hd : ACall C1.P 175 [.os 0 0 t.length, .agg c.row, .v (.int .i64 v)] [.own false 4 (t.map Ent.row)] (.tup [.os 1 0 L.length, .v (.int .i64 0)]) [.dead, .own false 4 (L.map Ent.row)] := hd
          refine acall_intro Tryz.func149 rfl _ Tryz.ntmps149 (Nat.le_of_ble_eq_true rfl) _ Tryz.results149 0 rfl rfl ?_
          repeat' (first | refine walk ?_ | (first | (apply to_call Tryz.func173 rfl rfl; intro hIsFn; refine o_callf hIsFn (h1 ..) ?_; skip) | (apply to_call Tryz.func174 rfl rfl; intro hIsFn; refine o_callf hIsFn (h2 ..) ?_; skip) | (apply to_call Tryz.func101 rfl rfl; intro hIsFn; refine o_callo ([]) hIsFn (h3 ..) ?_) | (apply to_call Tryz.func175 rfl rfl; intro hIsFn; refine o_callg ([1]) 1 hIsFn (hd ..) ?_)) | ((first | (apply awp_cond; rfl)); all_goals (intro hc; have hp := hc; first | (simp at hp; done) | ((try simp at hp); first | (exfalso; omega) | skip))) | (apply awp_cond_any; rfl))
          all_goals try (exfalso; omega)
          (refine f_pure (rs := [.tmp 6, .tmp 7]) ?_; (repeat' (first | exact rzl_nil | apply rzl_cons | exact rz_pure rfl | exact rz_ex | exact z_os | apply rz_agg | apply rz_tup | apply rz_clo | apply rz_int | apply rz_bool | apply rz_str | refine z_eq ?_ | apply rz_sl)); all_goals trace_state)
        · rw [hbadL (by rw [hR2]; exact hE), hR2]
          generalize doneE t c v = E at *
          generalize doneL t c v = L at *
          have hd : ACall C1.P 175 [.os 0 0 t.length, .agg c.row, .v (.int .i64 v)] [.own false 4 (t.map Ent.row)] (.tup [.sl true [], .v (.int .i64 E)]) [.dead, .own false 4 (L.map Ent.row)] := by
            rw [resAV, if_neg hE] at hd; exact hd
          refine acall_intro Tryz.func149 rfl _ Tryz.ntmps149 (Nat.le_of_ble_eq_true rfl) _ Tryz.results149 0 rfl rfl ?_
          repeat' (first | refine walk ?_ | (first | (apply to_call Tryz.func173 rfl rfl; intro hIsFn; refine o_callf hIsFn (h1 ..) ?_; skip) | (apply to_call Tryz.func174 rfl rfl; intro hIsFn; refine o_callf hIsFn (h2 ..) ?_; skip) | (apply to_call Tryz.func101 rfl rfl; intro hIsFn; refine o_callo ([]) hIsFn (h3 ..) ?_) | (apply to_call Tryz.func175 rfl rfl; intro hIsFn; refine o_callg ([1]) 1 hIsFn (hd ..) ?_)) | ((first | (apply awp_cond; rfl)); all_goals (intro hc; have hp := hc; first | (simp at hp; done) | ((try simp at hp); first | (exfalso; omega) | skip))) | (apply awp_cond_any; rfl))
          all_goals try (exfalso; omega)
          (refine f_pure (rs := [.tmp 6, .tmp 7]) ?_; (repeat' (first | exact rzl_nil | apply rzl_cons | exact rz_pure rfl | exact rz_ex | exact z_os | apply rz_agg | apply rz_tup | apply rz_clo | apply rz_int | apply rz_bool | apply rz_str | refine z_eq ?_ | apply rz_sl)); all_goals trace_state)
    · have hR2 : rawE t c v = mayErr t c := by rw [hR, if_neg (by simp [hce]), if_pos hme]
      rw [hce] at h1
      rw [hbadL (by rw [hR2]; exact hme), hR2]
      generalize mayErr t c = E at *
      refine acall_intro Tryz.func149 rfl _ Tryz.ntmps149 (Nat.le_of_ble_eq_true rfl) _ Tryz.results149 0 rfl rfl ?_
      repeat' (first | refine walk ?_ | (first | (apply to_call Tryz.func173 rfl rfl; intro hIsFn; refine o_callf hIsFn (h1 ..) ?_; skip) | (apply to_call Tryz.func174 rfl rfl; intro hIsFn; refine o_callf hIsFn (h2 ..) ?_; skip)) | ((first | (apply awp_cond; rfl)); all_goals (intro hc; have hp := hc; first | (simp at hp; done) | ((try simp at hp); first | (exfalso; omega) | skip))) | (apply awp_cond_any; rfl))
      all_goals try (exfalso; omega)
      (refine f_pure (rs := [.tmp 6, .tmp 7]) ?_; (repeat' (first | exact rzl_nil | apply rzl_cons | exact rz_pure rfl | exact rz_ex | exact z_os | apply rz_agg | apply rz_tup | apply rz_clo | apply rz_int | apply rz_bool | apply rz_str | refine z_eq ?_ | apply rz_sl)); all_goals trace_state)
  · have hR2 : rawE t c v = chgErr c := by rw [hR, if_pos hce]
    rw [hbadL (by rw [hR2]; exact hce), hR2]
    generalize chgErr c = E at *
    refine acall_intro Tryz.func149 rfl _ Tryz.ntmps149 (Nat.le_of_ble_eq_true rfl) _ Tryz.results149 0 rfl rfl ?_
    repeat' (first | refine walk ?_ | (first | (apply to_call Tryz.func173 rfl rfl; intro hIsFn; refine o_callf hIsFn (h1 ..) ?_; skip)) | ((first | (apply awp_cond; rfl)); all_goals (intro hc; have hp := hc; first | (simp at hp; done) | ((try simp at hp); first | (exfalso; omega) | skip))) | (apply awp_cond_any; rfl))
    all_goals try (exfalso; omega)
    (refine f_pure (rs := [.tmp 6, .tmp 7]) ?_; (repeat' (first | exact rzl_nil | apply rzl_cons | exact rz_pure rfl | exact rz_ex | exact z_os | apply rz_agg | apply rz_tup | apply rz_clo | apply rz_int | apply rz_bool | apply rz_str | refine z_eq ?_ | apply rz_sl)); all_goals trace_state)
end Go.Proofs.YtiljlcgmcmjcoaaGreatDoor

/- Trees, plain, 4: a tree as what is at each path. -/
set_option linter.unusedSimpArgs false
set_option linter.unnecessarySimpa false
set_option linter.unusedVariables false
namespace Go.Proofs.YtiljlcgmcmjcoaaGreatDoor
open Go.Op

def look (t : List Ent) (p : Str) : Option Ent := t.find? (atP p)
theorem look_some {t : List Ent} {p : Str} {x : Ent} (h : look t p = some x) : x ∈ t ∧ x.path = p := by
  have h1 := List.mem_of_find?_eq_some h
  have h2 := List.find?_some h
  exact ⟨h1, by simpa [atP] using h2⟩
theorem look_none {t : List Ent} {p : Str} : look t p = none ↔ ∀ x, x ∈ t → ¬ x.path = p := by
  unfold look
  rw [List.find?_eq_none]
  simp [atP]
theorem path_inj {t : List Ent} (hs : rising entLt t = true) {x y : Ent} (hx : x ∈ t) (hy : y ∈ t) (h : x.path = y.path) : x = y := by
  obtain ⟨i, hi, rfl⟩ := List.getElem_of_mem hx
  obtain ⟨j, hj, rfl⟩ := List.getElem_of_mem hy
  rcases Nat.lt_trichotomy i j with h1 | h1 | h1
  · have := rising_ltE hs i j hi hj h1
    rw [h, bl_irr] at this; cases this
  · subst h1; rfl
  · have := rising_ltE hs j i hj hi h1
    rw [h, bl_irr] at this; cases this
theorem look_mem {t : List Ent} (hs : rising entLt t = true) {x : Ent} (hx : x ∈ t) : look t x.path = some x := by
  cases h : look t x.path with
  | none => exact absurd rfl (look_none.1 h x hx)
  | some y =>
    obtain ⟨h1, h2⟩ := look_some h
    rw [path_inj hs h1 hx h2]
theorem look_iff {t : List Ent} (hs : rising entLt t = true) {p : Str} {x : Ent} : look t p = some x ↔ x ∈ t ∧ x.path = p :=
  ⟨look_some, fun ⟨h1, h2⟩ => h2 ▸ look_mem hs h1⟩
theorem mem_put {t : List Ent} {x : Ent} (hs : rising entLt t = true) (y : Ent) : y ∈ putT t x ↔ y = x ∨ (y ∈ t ∧ ¬ y.path = x.path) := by
  obtain ⟨A, M, Z, h, hp, hA, hZ, hM⟩ := splitE x.path (rising_pairE.1 hs)
  rw [putT_split h hp hM, h]
  have hA' : ∀ a, a ∈ A → ¬ a.path = x.path := fun a ha => bl_ne (hA a ha)
  have hZ' : ∀ a, a ∈ Z → ¬ a.path = x.path := fun a ha e => bl_ne (hZ a ha) e.symm
  simp only [List.mem_append, List.mem_singleton]
  constructor
  · rintro (h1 | h1 | h1)
    · exact .inr ⟨.inl h1, hA' y h1⟩
    · exact .inl h1
    · exact .inr ⟨.inr (.inr h1), hZ' y h1⟩
  · rintro (h1 | ⟨h1 | h1 | h1, h2⟩)
    · exact .inr (.inl h1)
    · exact .inl h1
    · rcases hM with ⟨_, z, rfl, hz⟩ | ⟨_, rfl⟩
      · rw [List.mem_singleton.1 h1] at h2; exact absurd hz h2
      · cases h1
    · exact .inr (.inr h1)
theorem look_put {t : List Ent} {x : Ent} (hs : rising entLt t = true) (p : Str) : look (putT t x) p = if p = x.path then some x else look t p := by
  have hr := putT_rising (x := x) hs
  split
  · rename_i h
    rw [look_iff hr, mem_put hs]
    exact ⟨.inl rfl, h.symm⟩
  · rename_i h
    cases hl : look t p with
    | none =>
      rw [look_none] at hl ⊢
      intro y hy
      rcases (mem_put hs y).1 hy with rfl | ⟨h1, _⟩
      · exact fun e => h e.symm
      · exact hl y h1
    | some y =>
      obtain ⟨h1, h2⟩ := look_some hl
      rw [look_iff hr, mem_put hs]
      exact ⟨.inr ⟨h1, by rw [h2]; exact h⟩, h2⟩
theorem look_keep (t : List Ent) (q p : Str) : look (keepE (inP q) t) p = if inB p q = true then none else look t p := by
  split
  · rename_i h
    rw [look_none]
    intro x hx
    have := (List.mem_filter.1 hx).2
    intro e
    simp only [inP, e, h] at this
    exact absurd this (by decide)
  · rename_i h
    unfold look keepE
    rw [List.find?_filter]
    congr 1
    funext x
    by_cases hx : x.path = p
    · simp [atP, inP, hx, h]
    · simp [atP, hx]
theorem look_putAll : ∀ {l t : List Ent}, rising entLt t = true → (l.Pairwise fun a b => ¬ a.path = b.path) → ∀ p, look (l.foldl putT t) p = match look l p with | some x => some x | none => look t p
  | [], t, _, _, p => rfl
  | x :: l, t, hs, hd, p => by
    have hd1 := List.pairwise_cons.1 hd
    rw [List.foldl_cons, look_putAll (putT_rising hs) hd1.2 p, look_put hs]
    by_cases hp : p = x.path
    · subst hp
      have : look l x.path = none := look_none.2 fun y hy e => hd1.1 y hy e.symm
      rw [this]
      simp [look, atP]
    · have h2 : look (x :: l) p = look l p := by
        unfold look
        rw [List.find?_cons_of_neg]
        simp [atP]; exact fun e => hp e.symm
      rw [h2, if_neg hp]

/-- What is within a path, as a text. -/
theorem inB_iff {p q : Str} : inB p q = true ↔ ∃ r, p = q ++ r ∧ (r = [] ∨ r.head? = some 47) := by
  unfold inB
  rw [Bool.or_eq_true, decide_eq_true_eq, List.isPrefixOf_iff_prefix]
  constructor
  · rintro (rfl | ⟨s, h⟩)
    · exact ⟨[], by simp, .inl rfl⟩
    · exact ⟨47 :: s, by rw [← h]; simp, .inr rfl⟩
  · rintro ⟨r, rfl, rfl | h⟩
    · exact .inl (by simp)
    · cases r with
      | nil => exact .inl (by simp)
      | cons c r =>
        simp at h
        subst h
        exact .inr ⟨r, by simp⟩
theorem inB_trans {p q r : Str} (h1 : inB p q = true) (h2 : inB q r = true) : inB p r = true := by
  obtain ⟨a, rfl, ha⟩ := inB_iff.1 h1
  obtain ⟨b, rfl, hb⟩ := inB_iff.1 h2
  refine inB_iff.2 ⟨b ++ a, by simp, ?_⟩
  cases b with
  | nil => simpa using ha
  | cons c b => right; simpa using hb
theorem inB_anti {p q : Str} (h1 : inB p q = true) (h2 : inB q p = true) : p = q := by
  obtain ⟨a, h, _⟩ := inB_iff.1 h1
  obtain ⟨b, h', _⟩ := inB_iff.1 h2
  have hl : a = [] := by
    have := congrArg List.length h
    have := congrArg List.length h'
    simp at *
    exact List.length_eq_zero_iff.1 (by omega)
  rw [h, hl]; simp
theorem inB_names {p q : Str} : inB p q = true ↔ namesOf q <+: namesOf p := by rw [inB_ref, List.isPrefixOf_iff_prefix]
end Go.Proofs.YtiljlcgmcmjcoaaGreatDoor

/- Changes in the abstract layer, 8: Find, Apply, All. -/
set_option linter.unusedSimpArgs false
set_option linter.unnecessarySimpa false
set_option linter.unusedVariables false
namespace Go.Ab
/-- A slice in memory that is written no more, told by its rows. -/
theorem red_fs {C : Cx} {ts : List (Nat × AV)} {hs : List (Nat × HB)} {nx : Nat} (i n : Nat) {off len : Nat} {rows : List (List AV)} (hi : getT ts i = .os n off len) (hn : getH hs n = .fz rows) (hl : off + len ≤ rows.length) : Red C ⟨ts, hs, nx⟩ ⟨(i, .sl false ((rows.drop off).take len)) :: ts, hs, nx⟩ := by
  intro B a w hB ⟨g1, g2, F, ρ, hp, g4⟩
  refine ⟨g1, g2, F, ρ, { kept := hp.kept, agree := hp.agree, grow := hp.grow, fresh := hp.fresh, names := hp.names, dom := hp.dom, own := hp.own, new := hp.new, sep := hp.sep }, fun m => ?_⟩
  show M F ρ _ (getT ((i, _) :: ts) m)
  rw [getT_cons]
  by_cases him : i = m
  · subst him
    rw [if_pos rfl]
    have h1 : M F ρ _ (getT ts i) := g4 i
    rw [hi] at h1
    have h2 : OwnAt F ρ w n (getH hs n) := hp.own n
    exact argv_fz_os (L := []) (rh := [n]) (h := getH hs) hn (by simp) hl F ρ ρ w _ (fun m hm => by obtain rfl := List.mem_singleton.1 hm; exact h2) (fun a b hm c hc => by
      rcases hm with h | h
      · obtain rfl := h.2; exact hc
      · cases h) h1
  · rw [if_neg him]
    exact g4 m
end Go.Ab
set_option maxHeartbeats 1000000
namespace Go.Proofs.YtiljlcgmcmjcoaaGreatDoor
open Go.Ab Go.RowKit
set_option maxRecDepth 10000
attribute [local irreducible] Awp Ops OpsX Wanted Red ExOk Go.Ab.Fin ACall Rz RzL RzRows Enters ResOk RenV RenVL ArgV ArgVL

theorem treeErr_zero {t : List Ent} (h : treeErr t = 0) : t.length ≤ 60 ∧ (∀ x, x ∈ t → entErr x = 0) ∧ rising entLt t = true ∧ ∀ x, x ∈ t → parErr t x = 0 := by
  unfold treeErr at h
  split at h
  · exact absurd h (by decide)
  · split at h
    · split at h
      · split at h
        · exact absurd h (by decide)
        · split at h
          · exact absurd h (by decide)
          · rename_i h1 h2 h3 h4 h5
            refine ⟨by omega, firstErr_zero.1 h2, h3, fun x hx => ?_⟩
            have h6 : (t.any fun x => decide (¬ parErr t x = 0)) = false := by simpa using h5
            rw [List.any_eq_false] at h6
            simpa using h6 x hx
      · exact absurd h (by decide)
    · contradiction
theorem entErr_zero {x : Ent} (h : entErr x = 0) : pathErr x.path = 0 ∧ ¬ (x.fold = true ∧ ¬ x.text = []) ∧ x.text.length ≤ 300 ∧ isVer x.ver = true := by
  unfold entErr at h
  split at h
  · split at h
    · exact absurd h (by decide)
    · split at h
      · exact absurd h (by decide)
      · split at h
        · exact ⟨by assumption, by assumption, by omega, by assumption⟩
        · exact absurd h (by decide)
  · contradiction
theorem RightE.of {t : List Ent} (h : treeErr t = 0) : RightE t := by
  obtain ⟨h1, h2, h3, h4⟩ := treeErr_zero h
  exact ⟨h3, fun x hx => (entErr_zero (h2 x hx)).1, by omega⟩
end Go.Proofs.YtiljlcgmcmjcoaaGreatDoor
