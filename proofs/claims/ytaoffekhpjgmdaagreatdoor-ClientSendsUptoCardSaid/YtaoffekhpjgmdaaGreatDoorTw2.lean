/- Deltas: the reference's DiffOf and SameChanges, walked; the law DeltaDiffs. -/
import Derived.Test.YtaoffekhpjgmdaaGreatDoorTwA
import Derived.Test.YtaoffekhpjgmdaaGreatDoorTu8
set_option linter.unusedSimpArgs false
set_option linter.unnecessarySimpa false
set_option linter.unusedVariables false
set_option maxHeartbeats 1000000
namespace Go.Proofs.YtaoffekhpjgmdaaGreatDoor
open Go.Ab Go.RowKit
set_option maxRecDepth 10000
attribute [local irreducible] Awp Ops OpsX Wanted Red ExOk Go.Ab.Fin ACall Rz RzL RzRows Enters ResOk RenV RenVL ArgV ArgVL

theorem look_idx {t : List Ent} (hs : rising entLt t = true) {p : Str} : (look t p = none ∧ idxOf (atP p) t = -1) ∨ ∃ (k : Nat) (h : k < t.length), idxOf (atP p) t = k ∧ look t p = some t[k] := by
  rcases idxOf_find (atP p) t with ⟨h1, h2⟩ | ⟨k, hk, h1, h2⟩
  · exact .inl ⟨h2, h1⟩
  · exact .inr ⟨k, hk, h1, h2⟩
set_option maxHeartbeats 4000000 in
theorem a_diffOfO (a b : List Ent) (ha : Right a) (hb : Right b) : ACall C.P 31 [entAV a, entAV b] [] (.os 0 0 (rawD a b).length) [.own false 5 ((rawD a b).map Chg.row)] := by
  have hla := ha.len
  have hlb := hb.len
  refine acall_intro Tryz.func31 rfl _ Tryz.ntmps31 (Nat.le_of_ble_eq_true rfl) _ Tryz.results31 0 rfl rfl ?_
  repeat' (first | refine walk ?_ | fail | ((first | (apply ops_split_t; rfl; rfl; exact nle rfl) | (apply ops_split_f; rfl; rfl; exact nle rfl) | (apply awp_cond; rfl)); all_goals (intro hc; have hp := hc; first | (simp at hp; done) | ((try simp at hp); first | (exfalso; omega) | skip))) | (apply awp_cond_any; rfl))
  refine Awp.red (red_nil 5 5 rfl (Nat.zero_le _)) ?_
  (refine Awp.red (red_ren (τ := ⟨[(0, entAV a), (1, entAV b), (5, .os 0 0 0), (6, entAV (leftOf a (gonesOf (a.take 0) b))), (7, .v (.int .i64 ((0 : Nat) : Int)))], [(0, .own false 5 [])], 1⟩) [(0, 0)] rfl ?gts ?ghs) ?gmain; (case gts => (repeat (first | exact tsok_nil | refine p_pure ?_ | refine p_op ?_ | refine p_os ?_ | refine p_eq ?_ ?_)); all_goals (rw [show leftOf a (gonesOf (a.take 0) b) = a from left_nil a]; rfl)); (case ghs => (repeat (first | exact hsok_nil | refine q_id ?_ | refine q_idx ?_ ?_))))
  refine awp_loop (fun n σ => ∃ i : Nat, i ≤ a.length ∧ n = a.length - i ∧ (True) ∧ σ = ⟨[(0, entAV a), (1, entAV b), (5, .os 0 0 (gonesOf (a.take i) b).length), (6, entAV (leftOf a (gonesOf (a.take i) b))), (7, .v (.int .i64 (i : Int)))], [(0, .own false 5 ((gonesOf (a.take i) b).map fun p => (delChg p).row))], 1⟩) a.length ⟨0, Nat.zero_le _, rfl, trivial, rfl⟩ ?_
  rintro n σ ⟨i, hi, rfl, -, rfl⟩
  have hgl := gones_len (a.take i) b
  have htl : (a.take i).length ≤ a.length := by simp; omega
  by_cases hlt : i < a.length
  · have hr := getRow (f := Ent.row) hlt
    have hm : a[i] ∈ a := List.getElem_mem _
    have hpe := (entErr_zero (ha.ent a[i] hm)).1
    have hps := pathErr_small hpe
    have hgs : gonesOf (a.take (i + 1)) b = if ((gonesOf (a.take i) b).any fun p => inB a[i].path p) = true then gonesOf (a.take i) b else if differs b a[i] = true then gonesOf (a.take i) b ++ [a[i].path] else gonesOf (a.take i) b := @gones_succ a b i hlt
    have hll := left_len a (gonesOf (a.take i) b)
    have hlr := left_rising (g := gonesOf (a.take i) b) ha.rise
    have hea := a_entryAt (leftOf a (gonesOf (a.take i) b)) a[i].path (by omega)
    have heb := a_entryAt b a[i].path (by omega)
    have hlk := look_left a (gonesOf (a.take i) b) a[i].path
    rw [look_mem ha.rise hm] at hlk
    have hdk := @del_ok a ha (gonesOf (a.take i) b) a[i] hm
    have hco := a_changeOf (leftOf a (gonesOf (a.take i) b)) (delChg a[i].path) 1 (by omega) hlr (fun x hx => (entErr_zero (ha.ent x (left_mem hx))).1) ⟨by show a[i].path.length ≤ _; omega, by show ([] : Str).length ≤ _; simp, by show ([] : Str).length ≤ _; simp⟩
    generalize hGG : gonesOf (a.take i) b = G at *
    cases hany : (G.any fun p => inB a[i].path p) with
    | true =>
      rw [hany, if_pos rfl] at hgs hlk
      have hix : idxOf (atP a[i].path) (leftOf a G) = -1 := by
        rcases look_idx hlr (p := a[i].path) with ⟨_, h2⟩ | ⟨k, hk, h1, h2⟩
        · exact h2
        · rw [hlk] at h2; cases h2
      rw [hix] at hea
      clear hdk hco hlk hany hpe
      repeat' (first | refine walk ?_ | (first | (apply to_call Tryz.func54 rfl rfl; intro hIsFn; refine o_callp hIsFn (hea ..) ?_)) | ((first | (apply ops_split_t; rfl; rfl; exact nle rfl) | (apply ops_split_f; rfl; rfl; exact nle rfl) | (apply awp_cond; rfl)); all_goals (intro hc; have hp := hc; first | (simp at hp; done) | ((try simp at hp); first | (exfalso; omega) | skip))) | (apply awp_cond_any; rfl))
      all_goals try (exfalso; omega)
      refine ⟨a.length - (i + 1), _, by omega, red_ren (τ := ⟨[(0, entAV a), (1, entAV b), (5, .os 0 0 (gonesOf (a.take (i + 1)) b).length), (6, entAV (leftOf a (gonesOf (a.take (i + 1)) b))), (7, .v (.int .i64 ((i + 1 : Nat) : Int)))], [(0, .own false 5 ((gonesOf (a.take (i + 1)) b).map fun p => (delChg p).row))], 1⟩) [(0, 0)] rfl ?gts ?ghs, i + 1, by omega, rfl, trivial, rfl⟩; (case gts => (repeat (first | exact tsok_nil | refine p_pure ?_ | refine p_op ?_ | refine p_osr ?_ | refine p_osx ?_ ?_ | refine p_eq ?_ ?_)); all_goals (rw [hgs]; try rfl)); (case ghs => (repeat (first | exact hsok_nil | refine q_r ?_ | refine q_idx ?_ ?_)); all_goals (rw [hgs]; try rfl))
    | false =>
      rw [hany, if_neg (by decide)] at hgs hlk
      obtain ⟨hr0, hL0⟩ := hdk hany
      rw [hr0, hL0] at hco
      have hco : AFn C.P 35 [entAV (leftOf a G), .agg [.v (.int .i64 4), .v (str a[i].path), .v (str []), .v (str []), .v (.int .i64 (-1))], .v (.int .i64 1)] (.tup [entAV (leftOf a (G ++ [a[i].path])), .v (.int .i64 0)]) := hco
      obtain ⟨k, hix⟩ : ∃ k : Nat, idxOf (atP a[i].path) (leftOf a G) = k := by
        rcases look_idx hlr (p := a[i].path) with ⟨h2, _⟩ | ⟨k, hk, h1, h2⟩
        · rw [hlk] at h2; cases h2
        · exact ⟨k, h1⟩
      rw [hix] at hea
      clear hlk hr0 hL0 hany hpe
      have hlG2 : (G ++ [a[i].path]).length = G.length + 1 := by simp
      rcases look_idx hb.rise (p := a[i].path) with ⟨h2, h3⟩ | ⟨kb, hkb, h3, h2⟩
      · have hdf : differs b a[i] = true := by unfold differs; rw [show b.find? (atP a[i].path) = none from h2]
        rw [if_pos hdf] at hgs
        rw [h3] at heb
        clear h2 h3 hdf
        repeat' (first | refine walk ?_ | (first | (refine o_fzl ?_) | (refine o_appo ?_) | (apply to_call Tryz.func54 rfl rfl; intro hIsFn; refine o_callp hIsFn (hea ..) ?_) | (apply to_call Tryz.func54 rfl rfl; intro hIsFn; refine o_callp hIsFn (heb ..) ?_) | (apply to_call Tryz.func35 rfl rfl; intro hIsFn; refine o_callp hIsFn (hco ..) ?_)) | ((first | (apply ops_split_t; rfl; rfl; exact nle rfl) | (apply ops_split_f; rfl; rfl; exact nle rfl) | (apply awp_cond; rfl)); all_goals (intro hc; have hp := hc; first | (simp at hp; done) | ((try simp at hp); first | (exfalso; omega) | skip))) | (apply awp_cond_any; rfl))
        all_goals try (exfalso; omega)
        all_goals (refine ⟨a.length - (i + 1), _, by omega, red_ren (τ := ⟨[(0, entAV a), (1, entAV b), (5, .os 0 0 (gonesOf (a.take (i + 1)) b).length), (6, entAV (leftOf a (gonesOf (a.take (i + 1)) b))), (7, .v (.int .i64 ((i + 1 : Nat) : Int)))], [(0, .own false 5 ((gonesOf (a.take (i + 1)) b).map fun p => (delChg p).row))], 1⟩) [(2, 0)] rfl ?gts ?ghs, i + 1, by omega, rfl, trivial, rfl⟩; (case gts => (repeat (first | exact tsok_nil | refine p_pure ?_ | refine p_op ?_ | refine p_osr ?_ | refine p_osx ?_ ?_ | refine p_eq ?_ ?_)); all_goals (rw [hgs]; first | (rw [hlG2]; done) | (rw [List.take_of_length_le (by simp), List.map_append]; rfl) | rfl | (simp; done))); (case ghs => (repeat (first | exact hsok_nil | refine q_r ?_ | refine q_idx ?_ ?_)); all_goals (rw [hgs]; first | (rw [hlG2]; done) | (rw [List.take_of_length_le (by simp), List.map_append]; rfl) | rfl | (simp; done))))
      · have hrb := getRow (f := Ent.row) hkb
        have hdf : differs b a[i] = decide (¬ b[kb].fold = a[i].fold) := by unfold differs; rw [show b.find? (atP a[i].path) = some b[kb] from h2]
        rw [hdf] at hgs
        rw [h3] at heb
        clear h2 h3 hdf
        by_cases hff : b[kb].fold = a[i].fold
        · rw [if_neg (by simp [hff])] at hgs
          repeat' (first | refine walk ?_ | (first | (refine o_beq ?_) | (apply to_call Tryz.func54 rfl rfl; intro hIsFn; refine o_callp hIsFn (hea ..) ?_) | (apply to_call Tryz.func54 rfl rfl; intro hIsFn; refine o_callp hIsFn (heb ..) ?_)) | ((first | (apply ops_split_t; rfl; rfl; exact nle rfl) | (apply ops_split_f; rfl; rfl; exact nle rfl) | (apply awp_cond; rfl)); all_goals (intro hc; have hp := hc; first | (simp at hp; done) | ((try simp at hp); first | (exfalso; omega) | skip))) | (apply awp_cond_any; rfl))
          all_goals try (exfalso; first | omega | (simp_all; done))
          all_goals (refine ⟨a.length - (i + 1), _, by omega, red_ren (τ := ⟨[(0, entAV a), (1, entAV b), (5, .os 0 0 (gonesOf (a.take (i + 1)) b).length), (6, entAV (leftOf a (gonesOf (a.take (i + 1)) b))), (7, .v (.int .i64 ((i + 1 : Nat) : Int)))], [(0, .own false 5 ((gonesOf (a.take (i + 1)) b).map fun p => (delChg p).row))], 1⟩) [(0, 0)] rfl ?gts ?ghs, i + 1, by omega, rfl, trivial, rfl⟩; (case gts => (repeat (first | exact tsok_nil | refine p_pure ?_ | refine p_op ?_ | refine p_osr ?_ | refine p_osx ?_ ?_ | refine p_eq ?_ ?_)); all_goals (rw [hgs]; try rfl)); (case ghs => (repeat (first | exact hsok_nil | refine q_r ?_ | refine q_idx ?_ ?_)); all_goals (rw [hgs]; try rfl)))
        · rw [if_pos (by simp [hff])] at hgs
          repeat' (first | refine walk ?_ | (first | (refine o_fzl ?_) | (refine o_appo ?_) | (refine o_beq ?_) | (apply to_call Tryz.func54 rfl rfl; intro hIsFn; refine o_callp hIsFn (hea ..) ?_) | (apply to_call Tryz.func54 rfl rfl; intro hIsFn; refine o_callp hIsFn (heb ..) ?_) | (apply to_call Tryz.func35 rfl rfl; intro hIsFn; refine o_callp hIsFn (hco ..) ?_)) | ((first | (apply ops_split_t; rfl; rfl; exact nle rfl) | (apply ops_split_f; rfl; rfl; exact nle rfl) | (apply awp_cond; rfl)); all_goals (intro hc; have hp := hc; first | (simp at hp; done) | ((try simp at hp); first | (exfalso; omega) | skip))) | (apply awp_cond_any; rfl))
          all_goals try (exfalso; first | omega | (simp_all; done))
          all_goals (refine ⟨a.length - (i + 1), _, by omega, red_ren (τ := ⟨[(0, entAV a), (1, entAV b), (5, .os 0 0 (gonesOf (a.take (i + 1)) b).length), (6, entAV (leftOf a (gonesOf (a.take (i + 1)) b))), (7, .v (.int .i64 ((i + 1 : Nat) : Int)))], [(0, .own false 5 ((gonesOf (a.take (i + 1)) b).map fun p => (delChg p).row))], 1⟩) [(2, 0)] rfl ?gts ?ghs, i + 1, by omega, rfl, trivial, rfl⟩; (case gts => (repeat (first | exact tsok_nil | refine p_pure ?_ | refine p_op ?_ | refine p_osr ?_ | refine p_osx ?_ ?_ | refine p_eq ?_ ?_)); all_goals (rw [hgs]; first | (rw [hlG2]; done) | (rw [List.take_of_length_le (by simp), List.map_append]; rfl) | rfl | (simp; done))); (case ghs => (repeat (first | exact hsok_nil | refine q_r ?_ | refine q_idx ?_ ?_)); all_goals (rw [hgs]; first | (rw [hlG2]; done) | (rw [List.take_of_length_le (by simp), List.map_append]; rfl) | rfl | (simp; done))))
  obtain rfl : i = a.length := by omega
  rw [List.take_length] at *
  repeat' (first | refine walk ?_ | fail | ((first | (apply ops_split_t; rfl; rfl; exact nle rfl) | (apply ops_split_f; rfl; rfl; exact nle rfl) | (apply awp_cond; rfl)); all_goals (intro hc; have hp := hc; first | (simp at hp; done) | ((try simp at hp); first | (exfalso; omega) | skip))) | (apply awp_cond_any; rfl))
  all_goals try (exfalso; omega)
  have hR0 : (gonesOf a b).map (fun p => (delChg p).row) = (rawTo a b 0).map Chg.row := by simp [rawTo]
  have hL0 : (gonesOf a b).length = (rawTo a b 0).length := by simp [rawTo]
  rw [hR0, hL0]
  have hsl := @stays_left a b ha hb
  have hll := left_len a (gonesOf a b)
  have hlr := left_rising (g := gonesOf a b) ha.rise
  generalize hT : leftOf a (gonesOf a b) = T at *
  (refine Awp.red (red_ren (τ := ⟨[(1, entAV b), (5, .os 0 0 (rawTo a b 0).length), (6, entAV T), (10, .v (.int .i64 ((0 : Nat) : Int)))], [(0, .own false 5 ((rawTo a b 0).map Chg.row))], 1⟩) [(0, 0)] rfl ?gts2 ?ghs2) ?gmain2; (case gts2 => (repeat (first | exact tsok_nil | refine p_pure ?_ | refine p_op ?_ | refine p_os ?_ | refine p_eq ?_ ?_)); all_goals (rw [List.length_map])); (case ghs2 => (repeat (first | exact hsok_nil | refine q_id ?_ | refine q_idx ?_ ?_))))
  refine awp_loop (fun n σ => ∃ i : Nat, i ≤ b.length ∧ n = b.length - i ∧ (True) ∧ σ = ⟨[(1, entAV b), (5, .os 0 0 (rawTo a b i).length), (6, entAV T), (10, .v (.int .i64 (i : Int)))], [(0, .own false 5 ((rawTo a b i).map Chg.row))], 1⟩) b.length ⟨0, Nat.zero_le _, rfl, trivial, rfl⟩ ?_
  rintro n σ ⟨i, hi, rfl, -, rfl⟩
  have hgl : (rawTo a b i).length ≤ 200 := by
    have h1 := gones_len a b
    have h2 : ((b.take i).filter fun x => !stays a x).length ≤ (b.take i).length := List.length_filter_le ..
    have h3 : (b.take i).length ≤ b.length := by simp; omega
    simp only [rawTo, List.length_append, List.length_map]; omega
  by_cases hlt : i < b.length
  · have hr := getRow (f := Ent.row) hlt
    have hgs := @raw_succ a b i hlt
    have hmk1 : b[i].fold = true → (mkChg b[i]).row = [.v (.int .i64 1), .v (str b[i].path), .v (str []), .v (str b[i].text), .v (.int .i64 (-1))] := fun h => by simp [mkChg, Chg.row, h]
    have hmk2 : b[i].fold = false → (mkChg b[i]).row = [.v (.int .i64 2), .v (str b[i].path), .v (str []), .v (str b[i].text), .v (.int .i64 (-1))] := fun h => by simp [mkChg, Chg.row, h]
    have heb := a_entryAt T b[i].path (by omega)
    have hst := hsl (List.getElem_mem hlt)
    have hl2 : (rawTo a b i ++ [mkChg b[i]]).length = (rawTo a b i).length + 1 := by simp
    generalize rawTo a b i = G at *
    clear hsl
    rcases look_idx hlr (p := b[i].path) with ⟨h2, h3⟩ | ⟨kb, hkb, h3, h2⟩
    · rw [h2] at hst
      have hst : false = stays a b[i] := hst
      rw [← hst, if_neg (by decide)] at hgs
      rw [h3] at heb
      clear h2 h3 hst
      repeat' (first | refine walk ?_ | (first | (refine o_fzl ?_) | (refine o_appo ?_) | (apply to_call Tryz.func54 rfl rfl; intro hIsFn; refine o_callp hIsFn (heb ..) ?_)) | ((first | (apply ops_split_t; rfl; rfl; exact nle rfl) | (apply ops_split_f; rfl; rfl; exact nle rfl) | (apply awp_cond; rfl)); all_goals (intro hc; have hp := hc; first | (simp at hp; done) | ((try simp at hp); first | (exfalso; omega) | skip))) | (apply awp_cond_any; rfl))
      all_goals try (exfalso; omega)
      all_goals (refine ⟨b.length - (i + 1), _, by omega, red_ren (τ := ⟨[(1, entAV b), (5, .os 0 0 (rawTo a b (i + 1)).length), (6, entAV T), (10, .v (.int .i64 ((i + 1 : Nat) : Int)))], [(0, .own false 5 ((rawTo a b (i + 1)).map Chg.row))], 1⟩) [(2, 0)] rfl ?gts ?ghs, i + 1, by omega, rfl, trivial, rfl⟩; (case gts => (repeat (first | exact tsok_nil | refine p_pure ?_ | refine p_op ?_ | refine p_osr ?_ | refine p_osx ?_ ?_ | refine p_eq ?_ ?_)); all_goals (rw [hgs]; first | (rw [hl2]; done) | (rw [List.take_of_length_le (by simp), List.map_append]; show _ = _ ++ [(mkChg b[i]).row]; first | (rw [hmk1 (by assumption)]; rfl) | (rw [hmk2 (by assumption)]; rfl)) | (simp; done))); (case ghs => (repeat (first | exact hsok_nil | refine q_r ?_ | refine q_idx ?_ ?_)); all_goals (rw [hgs]; first | (rw [hl2]; done) | (rw [List.take_of_length_le (by simp), List.map_append]; show _ = _ ++ [(mkChg b[i]).row]; first | (rw [hmk1 (by assumption)]; rfl) | (rw [hmk2 (by assumption)]; rfl)) | (simp; done))))
    · have hrb := getRow (f := Ent.row) hkb
      rw [h2] at hst
      have hst : (b[i].fold || decide (T[kb].text = b[i].text)) = stays a b[i] := hst
      rw [← hst] at hgs
      rw [h3] at heb
      clear h2 h3 hst
      by_cases hyes : (b[i].fold || decide (T[kb].text = b[i].text)) = true
      · rw [if_pos hyes] at hgs
        repeat' (first | refine walk ?_ | (first | (apply to_call Tryz.func54 rfl rfl; intro hIsFn; refine o_callp hIsFn (heb ..) ?_)) | ((first | (apply ops_split_t; rfl; rfl; exact nle rfl) | (apply ops_split_f; rfl; rfl; exact nle rfl) | (apply awp_cond; rfl)); all_goals (intro hc; have hp := hc; first | (simp at hp; done) | ((try simp at hp); first | (exfalso; omega) | skip))) | (apply awp_cond_any; rfl))
        all_goals try (exfalso; first | omega | (simp_all; done))
        all_goals (refine ⟨b.length - (i + 1), _, by omega, red_ren (τ := ⟨[(1, entAV b), (5, .os 0 0 (rawTo a b (i + 1)).length), (6, entAV T), (10, .v (.int .i64 ((i + 1 : Nat) : Int)))], [(0, .own false 5 ((rawTo a b (i + 1)).map Chg.row))], 1⟩) [(0, 0)] rfl ?gts ?ghs, i + 1, by omega, rfl, trivial, rfl⟩; (case gts => (repeat (first | exact tsok_nil | refine p_pure ?_ | refine p_op ?_ | refine p_osr ?_ | refine p_osx ?_ ?_ | refine p_eq ?_ ?_)); all_goals (rw [hgs])); (case ghs => (repeat (first | exact hsok_nil | refine q_r ?_ | refine q_idx ?_ ?_)); all_goals (rw [hgs])))
      · rw [if_neg hyes] at hgs
        repeat' (first | refine walk ?_ | (first | (refine o_fzl ?_) | (refine o_appo ?_) | (apply to_call Tryz.func54 rfl rfl; intro hIsFn; refine o_callp hIsFn (heb ..) ?_)) | ((first | (apply ops_split_t; rfl; rfl; exact nle rfl) | (apply ops_split_f; rfl; rfl; exact nle rfl) | (apply awp_cond; rfl)); all_goals (intro hc; have hp := hc; first | (simp at hp; done) | ((try simp at hp); first | (exfalso; omega) | skip))) | (apply awp_cond_any; rfl))
        all_goals try (exfalso; first | omega | (simp_all; done))
        all_goals (refine ⟨b.length - (i + 1), _, by omega, red_ren (τ := ⟨[(1, entAV b), (5, .os 0 0 (rawTo a b (i + 1)).length), (6, entAV T), (10, .v (.int .i64 ((i + 1 : Nat) : Int)))], [(0, .own false 5 ((rawTo a b (i + 1)).map Chg.row))], 1⟩) [(2, 0)] rfl ?gts ?ghs, i + 1, by omega, rfl, trivial, rfl⟩; (case gts => (repeat (first | exact tsok_nil | refine p_pure ?_ | refine p_op ?_ | refine p_osr ?_ | refine p_osx ?_ ?_ | refine p_eq ?_ ?_)); all_goals (rw [hgs]; first | (rw [hl2]; done) | (rw [List.take_of_length_le (by simp), List.map_append]; show _ = _ ++ [(mkChg b[i]).row]; first | (rw [hmk1 (by assumption)]; rfl) | (rw [hmk2 (by assumption)]; rfl)) | (simp; done))); (case ghs => (repeat (first | exact hsok_nil | refine q_r ?_ | refine q_idx ?_ ?_)); all_goals (rw [hgs]; first | (rw [hl2]; done) | (rw [List.take_of_length_le (by simp), List.map_append]; show _ = _ ++ [(mkChg b[i]).row]; first | (rw [hmk1 (by assumption)]; rfl) | (rw [hmk2 (by assumption)]; rfl)) | (simp; done))))
  obtain rfl : i = b.length := by omega
  repeat' (first | refine walk ?_ | fail | ((first | (apply ops_split_t; rfl; rfl; exact nle rfl) | (apply ops_split_f; rfl; rfl; exact nle rfl) | (apply awp_cond; rfl)); all_goals (intro hc; have hp := hc; first | (simp at hp; done) | ((try simp at hp); first | (exfalso; omega) | skip))) | (apply awp_cond_any; rfl))
  all_goals try (exfalso; omega)
  have hall : rawTo a b b.length = rawD a b := by simp [rawTo, rawD]
  rw [hall]
  (apply fin_ownr (rs := [.tmp 4]) [(0, 0)] 1; (case hr => (repeat (first | exact resok_nil | (apply resok_tmp; rfl) | (apply resok_cell; rfl; rfl; rfl; rfl; rfl)))); (case hL => rfl); (case hh => (repeat (first | exact hsok_nil | refine q_id ?_ | refine q_idx ?_ ?_)); all_goals trace_state); (case hi => first | exact (rfl : _ = ([] : List (Nat × Nat))) | exact (rfl : _ = [((0 : Nat), (0 : Nat))]) | exact (rfl : _ = [((0 : Nat), (0 : Nat)), (1, 1)])); (case hz => first | rfl | (simp [pack, AV.ren, AV.ren.renL, lookN, getT, enumT]; done) | (simp [pack, AV.ren, AV.ren.renL, lookN, getT, enumT, *]; done) | trace_state))
theorem a_diffOf (a b : List Ent) (ha : Right a) (hb : Right b) : AFn C.P 31 [entAV a, entAV b] (chgAV (rawD a b)) :=
  afn_of_own (a_diffOfO a b ha hb) (rz_os_pure rfl (by simp) (pures_map fun _ => rfl))
end Go.Proofs.YtaoffekhpjgmdaaGreatDoor
