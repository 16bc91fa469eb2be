/- Journals in the abstract layer, 8: the reference's CommitOf. -/
import Derived.Test.YtkkfilkmkdnboaaDoorJo7
import Derived.Test.YtkkfilkmkdnboaaDoorJo4
set_option linter.unusedSimpArgs false
set_option linter.unnecessarySimpa false
set_option linter.unusedVariables false
set_option maxHeartbeats 1000000
namespace Go.Proofs.YtkkfilkmkdnboaaDoor
open Go.Ab Go.RowKit
set_option maxRecDepth 10000
attribute [local irreducible] Awp Ops OpsX Wanted Red ExOk Go.Ab.Fin ACall Rz RzL RzRows Enters ResOk RenV RenVL ArgV ArgVL

theorem find_at {α : Type} {p : α → Bool} {l : List α} {i : Nat} (h : i < l.length) (hs : ∀ x, x ∈ l.take i → p x = false) (hp : p l[i] = true) : l.find? p = some l[i] := by
  rw [List.find?_eq_some_iff_getElem]
  refine ⟨hp, i, h, rfl, fun j hj => ?_⟩
  have := hs l[j] (by rw [List.mem_take_iff_getElem]; exact ⟨j, by omega, rfl⟩)
  simp [this]
set_option maxHeartbeats 4000000 in
theorem a_commitOf (j : Jou) (key : Str) (l : List Chg) (hb : JBig j) (hcb : CBig l) (hJ : JRight j) (hkl : key.length ≤ 1000000000) : AFn C.P 15 [.agg j.row, .v (str key), chgAV l] (resJ (commitW j key l)) := by
  have hll := hcb.len
  have hml : (l.map Chg.row).length = l.length := List.length_map ..
  have hmj : (j.coms.map Com.row).length = j.coms.length := List.length_map ..
  have hk := a_isKeyR key (by omega)
  have hlen := hJ.len
  have hlo := hJ.lo
  have hhi := hJ.hi
  have hN := hJ.now
  have htr := a_treeOf j hb hJ
  have hall := a_allOf (nowT j) l (j.first + ((j.coms.map Com.row).length : Int)) hN.len (RightE.of (right_iff.2 hN)) hcb
  rw [← allT_eq2 hN] at hall
  have hE : commitW j key l = if isKey key = false then (noJou, 0, 1) else match j.coms.find? (isK key) with
    | some c => (j, c.num, 0)
    | none => if l = [] then (noJou, 0, 1) else if 1000000 < nextN j then (noJou, 0, 3) else if ¬ (allT (nextN j) (nowT j) l).2.2 = 0 then (noJou, 0, (allT (nextN j) (nowT j) l).2.2) else (pushJ j ⟨nextN j, key, l⟩, nextN j, 0) := rfl
  have hnx : nextN j = j.first + ((j.coms.map Com.row).length : Int) := by rw [nextN_eq, hmj]
  have hp31 : pushJ j ⟨nextN j, key, l⟩ = if 30 < j.coms.length + 1 then ⟨match j.coms with | [] => j.base | d :: _ => (allT j.first j.base d.chs).1, j.first + 1, (j.coms ++ [(⟨nextN j, key, l⟩ : Com)]).drop 1⟩ else ⟨j.base, j.first, j.coms ++ [(⟨nextN j, key, l⟩ : Com)]⟩ := rfl
  generalize pushJ j ⟨nextN j, key, l⟩ = PJ at *
  generalize nextN j = NX at *
  subst hnx
  generalize hAA : allT (j.first + ((j.coms.map Com.row).length : Int)) (nowT j) l = A at *
  clear hAA
  generalize nowT j = U at *
  generalize hO : commitW j key l = O at *
  clear hO
  cases hkk : isKey key with
  | false =>
    rw [hkk] at hk
    rw [hkk, if_pos rfl] at hE
    subst hE
    refine acall_intro Tryd.func15 rfl _ Tryd.ntmps15 (Nat.le_of_ble_eq_true rfl) _ Tryd.results15 0 rfl rfl ?_
    repeat' (first | refine walk ?_ | (first | (apply to_call Tryd.func50 rfl rfl; intro hIsFn; refine o_callf hIsFn (hk ..) ?_; skip)) | ((first | (apply awp_cond; rfl)); all_goals (intro hc; have hp := hc; first | (simp at hp; done) | ((try simp at hp); first | (exfalso; omega) | skip))) | (apply awp_cond_any; rfl))
    all_goals try (exfalso; first | omega | contradiction)
    all_goals ((refine f_pure (rs := [.cell 6 25, .tmp 7, .tmp 8]) ?_; (repeat' (first | exact rzl_nil | apply rzl_cons | exact rz_pure rfl | exact rz_ex | exact z_os | apply rz_agg | apply rz_tup | apply rz_clo | apply rz_int | apply rz_bool | apply rz_str | refine z_eq ?_ | apply rz_sl)); all_goals trace_state))
  | true =>
    rw [hkk] at hk
    rw [hkk, if_neg (by decide)] at hE
    refine acall_intro Tryd.func15 rfl _ Tryd.ntmps15 (Nat.le_of_ble_eq_true rfl) _ Tryd.results15 0 rfl rfl ?_
    (repeat apply awp_seq); apply awp_region; (repeat' (first | apply ops_free | refine o_mv ?_ | refine o_as ?_ | refine o_ld ?_ | refine o_fa ?_ | refine o_bi ?_ | refine o_ln ?_ | refine o_ia ?_ | refine o_no ?_ | refine o_ex ?_ | refine o_bu ?_ | refine o_al ?_ | refine o_bx ?_ | refine o_sto ?_ | (first | fail) | refine r_nil ?_)); show Awp _ _ _ _ _
    (refine Awp.red (red_freeze 0 rfl ?_) ?_; (intro row hrow; obtain rfl := List.mem_singleton.1 hrow; rfl); refine Awp.red (red_fp 3 0 rfl rfl (Nat.le_of_ble_eq_true rfl)) ?_)
    repeat' (first | refine walk ?_ | (first | (apply to_call Tryd.func50 rfl rfl; intro hIsFn; refine o_callf hIsFn (hk ..) ?_; skip)) | ((first | (apply awp_cond; rfl)); all_goals (intro hc; have hp := hc; first | (simp at hp; done) | ((try simp at hp); first | (exfalso; omega) | skip))) | (apply awp_cond_any; rfl))
    all_goals try (exfalso; first | omega | contradiction)
    (refine Awp.red (red_ren (τ := ⟨[(1, .v (str key)), (2, chgAV l), (3, .fp [j.row] 0 0), (6, .op 0 0 0), (9, .v (.int .i64 ((0 : Nat) : Int)))], [(0, .own false 3 [[.sl true [], .v (.int .i64 0), .sl true []]])], 1⟩) [(1, 0)] rfl ?gts ?ghs) ?gmain; (case gts => (repeat (first | exact tsok_nil | refine p_pure ?_ | refine p_op ?_ | refine p_os ?_ | refine p_eq ?_ ?_))); (case ghs => (repeat (first | exact hsok_nil | refine q_id ?_ | refine q_idx ?_ ?_))))
    refine awp_loop (fun n σ => ∃ i : Nat, i ≤ j.coms.length ∧ n = j.coms.length - i ∧ (∀ c, c ∈ j.coms.take i → isK key c = false) ∧ σ = ⟨[(1, .v (str key)), (2, chgAV l), (3, .fp [j.row] 0 0), (6, .op 0 0 0), (9, .v (.int .i64 (i : Int)))], [(0, .own false 3 [[.sl true [], .v (.int .i64 0), .sl true []]])], 1⟩) j.coms.length ⟨0, Nat.zero_le _, rfl, (by simp), rfl⟩ ?_
    rintro n σ ⟨i, hi, rfl, hsofar, rfl⟩
    by_cases hlt : i < j.coms.length
    · have hr := getRow (f := Com.row) hlt
      have hnx := mem_take_succ (p := fun c => isK key c = false) hlt hsofar
      by_cases heq : j.coms[i].key = key
      · rw [find_at hlt hsofar (by simp [isK, heq])] at hE
        have hE : O = (j, j.coms[i].num, 0) := hE
        subst hE
        clear hall htr hnx
        repeat' (first | refine walk ?_ | fail | ((first | (apply awp_cond; rfl)); all_goals (intro hc; have hp := hc; first | (simp at hp; done) | ((try simp at hp); first | (exfalso; omega) | skip))) | (apply awp_cond_any; rfl))
        all_goals try (exfalso; first | omega | contradiction)
        all_goals ((refine f_pure (rs := [.cell 6 25, .tmp 7, .tmp 8]) ?_; (repeat' (first | exact rzl_nil | apply rzl_cons | exact rz_pure rfl | exact rz_ex | exact z_os | apply rz_agg | apply rz_tup | apply rz_clo | apply rz_int | apply rz_bool | apply rz_str | refine z_eq ?_ | apply rz_sl)); all_goals trace_state))
      · clear hE hall htr
        repeat' (first | refine walk ?_ | fail | ((first | (apply awp_cond; rfl)); all_goals (intro hc; have hp := hc; first | (simp at hp; done) | ((try simp at hp); first | (exfalso; omega) | skip))) | (apply awp_cond_any; rfl))
        all_goals try (exfalso; first | omega | contradiction)
        refine ⟨j.coms.length - (i + 1), _, by omega, red_ren (τ := ⟨[(1, .v (str key)), (2, chgAV l), (3, .fp [j.row] 0 0), (6, .op 0 0 0), (9, .v (.int .i64 ((i + 1 : Nat) : Int)))], [(0, .own false 3 [[.sl true [], .v (.int .i64 0), .sl true []]])], 1⟩) [(0, 0)] rfl ?gts ?ghs, i + 1, by omega, rfl, (hnx (by simp [isK, heq])), rfl⟩; (case gts => (repeat (first | exact tsok_nil | refine p_pure ?_ | refine p_op ?_ | refine p_os ?_ | refine p_eq ?_ ?_))); (case ghs => (repeat (first | exact hsok_nil | refine q_id ?_ | refine q_idx ?_ ?_)))
    · obtain rfl : i = j.coms.length := by omega
      rw [List.take_length] at hsofar
      rw [List.find?_eq_none.2 (fun c hc => by simp [hsofar c hc])] at hE
      have hE : O = if l = [] then (noJou, 0, 1) else if 1000000 < j.first + ((j.coms.map Com.row).length : Int) then (noJou, 0, 3) else if ¬ A.2.2 = 0 then (noJou, 0, A.2.2) else (PJ, j.first + ((j.coms.map Com.row).length : Int), 0) := hE
      by_cases hl0 : l = []
      · subst hl0
        rw [if_pos rfl] at hE
        subst hE
        clear hall htr
        (repeat' (first | refine walk ?_ | (first | fail) | ((first | (apply awp_cond; rfl)); all_goals (intro hc; have hp := hc; first | (simp at hp; done) | ((try simp at hp); first | (exfalso; omega) | skip))) | (apply awp_cond_any; rfl)))
        (all_goals try (exfalso; first | omega | contradiction))
        all_goals ((refine f_pure (rs := [.cell 6 25, .tmp 7, .tmp 8]) ?_; (repeat' (first | exact rzl_nil | apply rzl_cons | exact rz_pure rfl | exact rz_ex | exact z_os | apply rz_agg | apply rz_tup | apply rz_clo | apply rz_int | apply rz_bool | apply rz_str | refine z_eq ?_ | apply rz_sl)); all_goals trace_state))
      · rw [if_neg hl0] at hE
        have hl1 : ¬ l.length = 0 := fun e => hl0 (List.eq_nil_of_length_eq_zero e)
        by_cases hbig : 1000000 < j.first + ((j.coms.map Com.row).length : Int)
        · rw [if_pos hbig] at hE
          subst hE
          clear hall htr
          (repeat' (first | refine walk ?_ | (first | fail) | ((first | (apply awp_cond; rfl)); all_goals (intro hc; have hp := hc; first | (simp at hp; done) | ((try simp at hp); first | (exfalso; omega) | skip))) | (apply awp_cond_any; rfl)))
          (all_goals try (exfalso; first | omega | contradiction))
          all_goals ((refine f_pure (rs := [.cell 6 25, .tmp 7, .tmp 8]) ?_; (repeat' (first | exact rzl_nil | apply rzl_cons | exact rz_pure rfl | exact rz_ex | exact z_os | apply rz_agg | apply rz_tup | apply rz_clo | apply rz_int | apply rz_bool | apply rz_str | refine z_eq ?_ | apply rz_sl)); all_goals trace_state))
        · rw [if_neg hbig] at hE
          obtain ⟨t1, n1, e1⟩ := A
          by_cases he1 : e1 = 0
          · subst he1
            rw [if_neg (by simp)] at hE
            subst hE
            by_cases h31 : 30 < j.coms.length + 1
            · rw [if_pos h31] at hp31
              subst hp31
              obtain ⟨jb, jf, jc⟩ := j
              cases jc with
              | nil => exact absurd h31 (by simp)
              | cons d r =>
                obtain ⟨q1, q2, -⟩ := comsR_cons hJ.run
                have q4 := (comErr_zero q1).1
                have hall2 := a_allOf jb d.chs jf hJ.base.len (RightE.of (right_iff.2 hJ.base)) (hb.coms.each d (List.mem_cons_self ..)).chs
                rw [← allT_eq2 hJ.base] at hall2
                dsimp only at *
                have hlen2 : r.length + 1 ≤ 30 := by simpa using hlen
                have h31b : 30 < r.length + 1 + 1 := by simpa using h31
                have hjl3 : 1 ≤ (Jou.mk jb jf (d :: r)).first := hlo
                have hjh3 : (Jou.mk jb jf (d :: r)).first ≤ 1000000 := hhi
                have hmj3 : ((Jou.mk jb jf (d :: r)).coms.map Com.row).length = r.length + 1 := by simp
                rw [q4] at q2
                generalize allT jf jb d.chs = T2 at *
                obtain ⟨t2, n2, e2⟩ := T2
                have q2 : e2 = 0 := q2
                subst q2
                clear hJ hb hsofar q1 q4
                (repeat' (first | refine walk ?_ | (first | (apply to_call Tryd.func23 rfl rfl; intro hIsFn; refine o_callp hIsFn (htr ..) ?_) | (apply to_call Tryd.func51 rfl rfl; intro hIsFn; refine o_callp hIsFn (hall ..) ?_) | (refine o_fzl ?_) | (refine o_appn ?_) | (refine o_appo ?_) | (refine o_ixo ?_) | (refine o_slo ?_) | (apply to_call Tryd.func51 rfl rfl; intro hIsFn; refine o_callp hIsFn (hall2 ..) ?_)) | ((first | (apply awp_cond; rfl)); all_goals (intro hc; have hp := hc; first | (simp at hp; done) | ((try simp at hp); first | (exfalso; omega) | skip))) | (apply awp_cond_any; rfl)))
                (all_goals try (exfalso; first | omega | contradiction))
                all_goals ((refine f_pure (rs := [.cell 6 25, .tmp 7, .tmp 8]) ?_; (repeat' (first | (exact z_osd (push_rows (n0 := ((Jou.mk jb jf (d :: r)).coms.map Com.row).length) rfl (by simp) (by simp)) (pures_map fun _ => rfl) (by simp; try omega)) | exact rzl_nil | apply rzl_cons | exact rz_pure rfl | exact rz_ex | exact z_os | apply rz_agg | apply rz_tup | apply rz_clo | apply rz_int | apply rz_bool | apply rz_str | refine z_eq ?_ | apply rz_sl)); all_goals trace_state))
            · rw [if_neg h31] at hp31
              subst hp31
              (repeat' (first | refine walk ?_ | (first | (apply to_call Tryd.func23 rfl rfl; intro hIsFn; refine o_callp hIsFn (htr ..) ?_) | (apply to_call Tryd.func51 rfl rfl; intro hIsFn; refine o_callp hIsFn (hall ..) ?_) | (refine o_fzl ?_) | (refine o_appn ?_) | (refine o_appo ?_)) | ((first | (apply awp_cond; rfl)); all_goals (intro hc; have hp := hc; first | (simp at hp; done) | ((try simp at hp); first | (exfalso; omega) | skip))) | (apply awp_cond_any; rfl)))
              (all_goals try (exfalso; first | omega | contradiction))
              all_goals ((refine f_pure (rs := [.cell 6 25, .tmp 7, .tmp 8]) ?_; (repeat' (first | exact rzl_nil | apply rzl_cons | exact rz_pure rfl | exact rz_ex | exact z_os | apply rz_agg | apply rz_tup | apply rz_clo | apply rz_int | apply rz_bool | apply rz_str | refine z_eq ?_ | apply rz_sl)); all_goals (rw [List.take_of_length_le (by simp), List.map_append]; rfl)))
          · rw [if_pos he1] at hE
            subst hE
            (repeat' (first | refine walk ?_ | (first | (apply to_call Tryd.func23 rfl rfl; intro hIsFn; refine o_callp hIsFn (htr ..) ?_) | (apply to_call Tryd.func51 rfl rfl; intro hIsFn; refine o_callp hIsFn (hall ..) ?_)) | ((first | (apply awp_cond; rfl)); all_goals (intro hc; have hp := hc; first | (simp at hp; done) | ((try simp at hp); first | (exfalso; omega) | skip))) | (apply awp_cond_any; rfl)))
            (all_goals try (exfalso; first | omega | contradiction))
            all_goals ((refine f_pure (rs := [.cell 6 25, .tmp 7, .tmp 8]) ?_; (repeat' (first | exact rzl_nil | apply rzl_cons | exact rz_pure rfl | exact rz_ex | exact z_os | apply rz_agg | apply rz_tup | apply rz_clo | apply rz_int | apply rz_bool | apply rz_str | refine z_eq ?_ | apply rz_sl)); all_goals trace_state))
end Go.Proofs.YtkkfilkmkdnboaaDoor
