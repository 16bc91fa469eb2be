import Derived.Test.YtiljlcgmcmjcoaaGreatDoorMz12
import Derived.Test.YtiljlcgmcmjcoaaGreatDoorMz15
import Derived.Test.YtiljlcgmcmjcoaaGreatDoorMz1
import Derived.Test.YtiljlcgmcmjcoaaGreatDoorMz2
/- Grants in the abstract layer, 3: owned. -/
set_option linter.unusedSimpArgs false
set_option maxHeartbeats 1000000
namespace Go.Proofs.YtiljlcgmcmjcoaaGreatDoor
open Go.Ab Go.RowKit
set_option maxRecDepth 10000
attribute [local irreducible] Awp Ops OpsX Wanted Red ExOk Go.Ab.Fin ACall Rz RzL RzRows Enters ResOk RenV RenVL ArgV ArgVL

theorem a_owned (l : List Gra) (hl : l.length ≤ 1000000) : AFn C.P 76 [graAV l] (.v (.bool (ownedB l))) := by
  refine acall_intro Tryz.func76 rfl _ Tryz.ntmps76 (Nat.le_of_ble_eq_true rfl) _ Tryz.results76 0 rfl rfl ?_
  repeat' (first | refine walk ?_ | (first | (apply opsx_new; apply ex_makeMap; exact nle rfl) | (apply opsx_val; apply ex_len_mp; rfl; rfl; rfl; rfl; exact nle rfl) | (apply opsx_store; apply ex_mapUpdate; rfl; rfl; rfl; rfl; rfl; rfl; rfl; rfl)) | ((first | (apply awp_cond; rfl)); all_goals (intro hc; have hp := hc; first | (simp at hp; done) | ((try simp at hp); first | (exfalso; omega) | skip))) | (apply awp_cond_any; rfl))
  (refine Awp.red (red_ren (τ := ⟨[(3, .mp 0), (4, .mp 1), (9, graAV l), (10, .v (.int .i64 l.length)), (11, .v (.int .i64 ((0 : Nat) : Int)))], [(0, .mp (ownM (l.take 0))), (1, .mp (allM (l.take 0)))], 2⟩) [(0, 0), (1, 1)] rfl ?gts ?ghs) ?gmain; (case gts => (repeat (first | exact tsok_nil | (apply tsok_pure; (case hx => rfl); (case hp => first | rfl | (simp [AV.pure, AV.pure.pureL, *]; done))) | (apply tsok_mp; (case hx => rfl); (case hm => (first | exact maps_low rfl | exact .inr (List.mem_cons_self ..) | exact .inr (List.mem_cons_of_mem _ (List.mem_cons_self ..)) | exact .inr (List.mem_cons_of_mem _ (List.mem_cons_of_mem _ (List.mem_cons_self ..))) | exact .inr (List.mem_cons_of_mem _ (List.mem_cons_of_mem _ (List.mem_cons_of_mem _ (List.mem_cons_self ..))))))) | (apply tsok_op; rfl; (first | exact maps_low rfl | exact .inr (List.mem_cons_self ..) | exact .inr (List.mem_cons_of_mem _ (List.mem_cons_self ..)) | exact .inr (List.mem_cons_of_mem _ (List.mem_cons_of_mem _ (List.mem_cons_self ..))) | exact .inr (List.mem_cons_of_mem _ (List.mem_cons_of_mem _ (List.mem_cons_of_mem _ (List.mem_cons_self ..)))))) | (apply tsok_eq; (conv => lhs; whnf); rotate_left; rfl))); all_goals (rw [List.length_map])); (case ghs => (repeat (first | exact hsok_nil | (apply hsok_mp; (case hm => (first | exact maps_low rfl | exact .inr (List.mem_cons_self ..) | exact .inr (List.mem_cons_of_mem _ (List.mem_cons_self ..)) | exact .inr (List.mem_cons_of_mem _ (List.mem_cons_of_mem _ (List.mem_cons_self ..))) | exact .inr (List.mem_cons_of_mem _ (List.mem_cons_of_mem _ (List.mem_cons_of_mem _ (List.mem_cons_self ..)))))); (case hx => rfl); (case hp => first | assumption | exact nofun | skip); (first | (case hr => rfl) | (case hr => assumption) | rotate_left))))))
  refine awp_loop (fun n σ => ∃ i : Nat, i ≤ l.length ∧ n = l.length - i ∧ (True) ∧ σ = ⟨[(3, .mp 0), (4, .mp 1), (9, graAV l), (10, .v (.int .i64 l.length)), (11, .v (.int .i64 (i : Int)))], [(0, .mp (ownM (l.take i))), (1, .mp (allM (l.take i)))], 2⟩) l.length ⟨0, Nat.zero_le _, rfl, trivial, rfl⟩ ?_
  rintro n σ ⟨i, hi, rfl, -, rfl⟩
  by_cases hlt : i < l.length
  · have hr := getRow (f := Gra.row) hlt
    have hp1 := keyM_pure ((l.take (i + 1)).map (·.folder))
    have hp2 := keyM_pure (((l.take (i + 1)).filter (fun g => decide (g.right = 3))).map (·.folder))
    repeat' (first | refine walk ?_ | (first | (apply opsx_new; apply ex_makeMap; exact nle rfl) | (apply opsx_val; apply ex_len_mp; rfl; rfl; rfl; rfl; exact nle rfl) | (apply opsx_store; apply ex_mapUpdate; rfl; rfl; rfl; rfl; rfl; rfl; rfl; rfl)) | ((first | (apply awp_cond; rfl)); all_goals (intro hc; have hp := hc; first | (simp at hp; done) | ((try simp at hp); first | (exfalso; omega) | skip))) | (apply awp_cond_any; rfl))
    all_goals try (exfalso; omega)
    all_goals try (have h3 := ownM_yes hlt hp)
    all_goals try (have h3 := ownM_no hlt hp)
    all_goals (have h4 := allM_succ hlt)
    all_goals (refine ⟨l.length - (i + 1), _, by omega, red_ren (τ := ⟨[(3, .mp 0), (4, .mp 1), (9, graAV l), (10, .v (.int .i64 l.length)), (11, .v (.int .i64 ((i + 1 : Nat) : Int)))], [(0, .mp (ownM (l.take (i + 1)))), (1, .mp (allM (l.take (i + 1))))], 2⟩) [(0, 0), (1, 1)] rfl ?gts ?ghs, i + 1, by omega, rfl, trivial, rfl⟩; (case gts => (repeat (first | exact tsok_nil | (apply tsok_pure; (case hx => rfl); (case hp => first | rfl | (simp [AV.pure, AV.pure.pureL, *]; done))) | (apply tsok_mp; (case hx => rfl); (case hm => (first | exact maps_low rfl | exact .inr (List.mem_cons_self ..) | exact .inr (List.mem_cons_of_mem _ (List.mem_cons_self ..)) | exact .inr (List.mem_cons_of_mem _ (List.mem_cons_of_mem _ (List.mem_cons_self ..))) | exact .inr (List.mem_cons_of_mem _ (List.mem_cons_of_mem _ (List.mem_cons_of_mem _ (List.mem_cons_self ..))))))) | (apply tsok_op; rfl; (first | exact maps_low rfl | exact .inr (List.mem_cons_self ..) | exact .inr (List.mem_cons_of_mem _ (List.mem_cons_self ..)) | exact .inr (List.mem_cons_of_mem _ (List.mem_cons_of_mem _ (List.mem_cons_self ..))) | exact .inr (List.mem_cons_of_mem _ (List.mem_cons_of_mem _ (List.mem_cons_of_mem _ (List.mem_cons_self ..)))))) | (apply tsok_eq; (conv => lhs; whnf); rotate_left; rfl)))); (case ghs => (repeat (first | exact hsok_nil | (apply hsok_mp; (case hm => (first | exact maps_low rfl | exact .inr (List.mem_cons_self ..) | exact .inr (List.mem_cons_of_mem _ (List.mem_cons_self ..)) | exact .inr (List.mem_cons_of_mem _ (List.mem_cons_of_mem _ (List.mem_cons_self ..))) | exact .inr (List.mem_cons_of_mem _ (List.mem_cons_of_mem _ (List.mem_cons_of_mem _ (List.mem_cons_self ..)))))); (case hx => rfl); (case hp => first | assumption | exact nofun | skip); (first | (case hr => rfl) | (case hr => assumption) | rotate_left)))); all_goals (first | exact h3.symm | exact h4.symm)))
  obtain rfl : i = l.length := by omega
  repeat' (first | refine walk ?_ | (first | (apply opsx_new; apply ex_makeMap; exact nle rfl) | (apply opsx_val; apply ex_len_mp; rfl; rfl; rfl; rfl; exact nle rfl) | (apply opsx_store; apply ex_mapUpdate; rfl; rfl; rfl; rfl; rfl; rfl; rfl; rfl)) | ((first | (apply awp_cond; rfl)); all_goals (intro hc; have hp := hc; first | (simp at hp; done) | ((try simp at hp); first | (exfalso; omega) | skip))) | (apply awp_cond_any; rfl))
  all_goals try (exfalso; omega)
  apply fin_bool
  rfl
  rw [← ownedB_len, List.take_length]
  simp [Int.ofNat_inj]
end Go.Proofs.YtiljlcgmcmjcoaaGreatDoor

/- Grants in the abstract layer, 4: Owned, Check, CheckGrants. -/
set_option linter.unusedSimpArgs false
set_option maxHeartbeats 1000000
namespace Go.Proofs.YtiljlcgmcmjcoaaGreatDoor
open Go.Ab Go.RowKit
set_option maxRecDepth 10000
attribute [local irreducible] Awp Ops OpsX Wanted Red ExOk Go.Ab.Fin ACall Rz RzL RzRows Enters ResOk RenV RenVL ArgV ArgVL

theorem a_gcheck (l : List Gra) (hl : GBig l) : AFn C.P 39 [graAV l] (.v (.int .i64 (graErr l))) := by
  have hll := hl.len
  refine acall_intro Tryz.func39 rfl _ Tryz.ntmps39 (Nat.le_of_ble_eq_true rfl) _ Tryz.results39 0 rfl rfl ?_
  repeat' (first | refine walk ?_ | fail | ((first | (apply ops_split_t; rfl; rfl; exact nle rfl) | (apply ops_split_f; rfl; rfl; exact nle rfl) | (apply awp_cond; rfl)); all_goals (intro hc; have hp := hc; first | (simp at hp; done) | ((try simp at hp); first | (exfalso; omega) | skip))) | (apply awp_cond_any; rfl))
  · apply fin_int
    rfl
    have h60 : 60 < l.length := by omega
    simp [graErr, h60]
  have h60 : ¬ 60 < l.length := by omega
  (refine Awp.red (red_pure (ts := [(0, graAV l), (9, graAV l), (10, .v (.int .i64 l.length)), (11, .v (.int .i64 ((0 : Nat) : Int)))]) ?_) ?_; ((repeat (first | exact tsok_nil | refine p_pure ?_ | refine p_eq ?_ ?_))))
  all_goals try (rw [List.length_map]; done)
  refine awp_loop (fun n σ => ∃ i : Nat, i ≤ l.length ∧ n = l.length - i ∧ (∀ g, g ∈ l.take i → oneGra g = 0) ∧ σ = ⟨[(0, graAV l), (9, graAV l), (10, .v (.int .i64 l.length)), (11, .v (.int .i64 (i : Int)))], [], C.nh⟩) l.length ⟨0, Nat.zero_le _, rfl, (by simp), rfl⟩ ?_
  rintro n σ ⟨i, hi, rfl, hsofar, rfl⟩
  by_cases hlt : i < l.length
  · have hr := getRow (f := Gra.row) hlt
    have hsm := hl.each l[i] (List.getElem_mem _)
    have hnm := a_names [l[i].folder, l[i].who] (by simp) (by simp; exact hsm)
    simp only [List.map, List.all_cons, List.all_nil, Bool.and_true] at hnm
    repeat' (first | refine walk ?_ | (first | (apply to_call Tryz.func62 rfl rfl; intro hIsFn; refine o_callp hIsFn (hnm ..) ?_) | (refine o_fzl ?_)) | ((first | (apply ops_split_t; rfl; rfl; exact nle rfl) | (apply ops_split_f; rfl; rfl; exact nle rfl) | (apply awp_cond; rfl)); all_goals (intro hc; have hp := hc; first | (simp at hp; done) | ((try simp at hp); first | (exfalso; omega) | skip))) | (apply awp_cond_any; rfl))
    all_goals try (exfalso; omega)
    all_goals first
      | (apply fin_int; rfl; exact graErr_first h60 hlt hsofar (oneGra_form (by assumption)) (by omega))
      | (apply fin_int; rfl; exact graErr_first h60 hlt hsofar (oneGra_range (by assumption) (by omega)) (by omega))
      | (have he : oneGra l[i] = 0 := oneGra_ok (by assumption) (by omega)
         refine ⟨l.length - (i + 1), _, by omega, red_pure (ts := [(0, graAV l), (9, graAV l), (10, .v (.int .i64 l.length)), (11, .v (.int .i64 ((i + 1 : Nat) : Int)))]) ?_, i + 1, by omega, rfl, mem_take_succ hlt hsofar he, rfl⟩; ((repeat (first | exact tsok_nil | refine p_pure ?_ | refine p_eq ?_ ?_))))
  obtain rfl : i = l.length := by omega
  have hz : firstErr oneGra l = 0 := firstErr_zero.2 (fun s hs => hsofar s (by rw [List.take_length]; exact hs))
  clear hsofar
  repeat' (first | refine walk ?_ | fail | ((first | (apply ops_split_t; rfl; rfl; exact nle rfl) | (apply ops_split_f; rfl; rfl; exact nle rfl) | (apply awp_cond; rfl)); all_goals (intro hc; have hp := hc; first | (simp at hp; done) | ((try simp at hp); first | (exfalso; omega) | skip))) | (apply awp_cond_any; rfl))
  all_goals try (exfalso; omega)
  (refine Awp.red (red_pure (ts := [(0, graAV l), (5, .v (.int .i64 ((0 + 1 : Nat) : Int)))]) ?_) ?_; ((repeat (first | exact tsok_nil | refine p_pure ?_ | refine p_eq ?_ ?_))))
  refine awp_loop (fun n σ => ∃ i : Nat, i ≤ (l.drop 1).length ∧ n = (l.drop 1).length - i ∧ (∀ (k : Nat) (h : k + 1 < l.length), k < i → graLt (l[k]'(by omega)) l[k + 1] = true) ∧ σ = ⟨[(0, graAV l), (5, .v (.int .i64 ((i + 1 : Nat) : Int)))], [], C.nh⟩) (l.drop 1).length ⟨0, Nat.zero_le _, rfl, (fun k h hk => absurd hk (Nat.not_lt_zero _)), rfl⟩ ?_
  have hdl : (l.drop 1).length = l.length - 1 := by simp
  rintro n σ ⟨i, hi, rfl, hsofar, rfl⟩
  by_cases hlt : i + 1 < l.length
  · have hr := getRow (f := Gra.row) hlt
    have hr' := getRow (f := Gra.row) (l := l) (i := i) (by omega)
    repeat' (first | refine walk ?_ | (first | (apply to_call Tryz.func75 rfl rfl; intro hIsFn; refine o_callf hIsFn (a_order ..) ?_; skip)) | ((first | (apply ops_split_t; rfl; rfl; exact nle rfl) | (apply ops_split_f; rfl; rfl; exact nle rfl) | (apply awp_cond; rfl)); all_goals (intro hc; have hp := hc; first | (simp at hp; done) | ((try simp at hp); first | (exfalso; omega) | skip))) | (apply awp_cond_any; rfl))
    all_goals try (exfalso; simp_all; done)
    · have hrf : ¬ rising graLt l = true := fun h => by
        have := (graCmp_neg _ _).2 (rising_iff.1 h i hlt)
        omega
      apply fin_int
      rfl
      simp [graErr, h60, hz, hrf]
    · refine ⟨(l.drop 1).length - (i + 1), _, by omega, red_pure (ts := [(0, graAV l), (5, .v (.int .i64 ((i + 1 + 1 : Nat) : Int)))]) ?_, i + 1, by omega, rfl, (fun k h hk => by
        by_cases e : k = i
        · subst e; exact (graCmp_neg _ _).1 (by omega)
        · exact hsofar k h (by omega)), rfl⟩; ((repeat (first | exact tsok_nil | refine p_pure ?_ | refine p_eq ?_ ?_)))
  have hrise : rising graLt l = true := rising_iff.2 fun k h => hsofar k h (by simp at hi; omega)
  clear hsofar
  have hown := a_owned l (by omega)
  repeat' (first | refine walk ?_ | (first | (apply to_call Tryz.func76 rfl rfl; intro hIsFn; refine o_callf hIsFn (hown ..) ?_; skip)) | ((first | (apply ops_split_t; rfl; rfl; exact nle rfl) | (apply ops_split_f; rfl; rfl; exact nle rfl) | (apply awp_cond; rfl)); all_goals (intro hc; have hp := hc; first | (simp at hp; done) | ((try simp at hp); first | (exfalso; omega) | skip))) | (apply awp_cond_any; rfl))
  all_goals try (exfalso; omega)
  all_goals (apply fin_int; rfl; simp_all [graErr])
end Go.Proofs.YtiljlcgmcmjcoaaGreatDoor

/- Grants in the abstract layer, 5: CheckGrants. -/
set_option linter.unusedSimpArgs false
set_option maxHeartbeats 1000000
namespace Go.Proofs.YtiljlcgmcmjcoaaGreatDoor
open Go.Ab Go.RowKit
set_option maxRecDepth 10000
attribute [local irreducible] Awp Ops OpsX Wanted Red ExOk Go.Ab.Fin ACall Rz RzL RzRows Enters ResOk RenV RenVL ArgV ArgVL

end Go.Proofs.YtiljlcgmcmjcoaaGreatDoor

/- Grants in the abstract layer, 6: BinarySearchFunc, find, Of. -/
set_option linter.unusedSimpArgs false
set_option maxHeartbeats 1000000
namespace Go.Proofs.YtiljlcgmcmjcoaaGreatDoor
open Go.Ab Go.RowKit
set_option maxRecDepth 10000
attribute [local irreducible] Awp Ops OpsX Wanted Red ExOk Go.Ab.Fin ACall Rz RzL RzRows Enters ResOk RenV RenVL ArgV ArgVL

theorem a_search (l : List Gra) (g : Gra) (hl : l.length ≤ 1000000) (hs : rising graLt l = true) :
    AFn C.P 136 [graAV l, .agg g.row, .clo (.func 75) [] []] (.tup [.v (.int .i64 (posG l g)), .v (.bool (hitG l g))]) := by
  refine acall_intro Tryz.func136 rfl _ Tryz.ntmps136 (Nat.le_of_ble_eq_true rfl) _ Tryz.results136 0 rfl rfl ?_
  (repeat apply awp_seq); apply awp_region; (repeat' (first | apply ops_free | refine o_mv ?_ | refine o_as ?_ | refine o_ld ?_ | refine o_bi ?_ | refine o_pk ?_ | refine o_ln ?_ | refine o_ia ?_ | refine o_bx ?_ | (first | fail) | refine r_nil ?_ | refine g_on_t ?_ | refine g_on_f ?_ | refine g_off_t ?_ | refine g_off_f ?_ | refine g_unw ?_ | refine g_yes ?_ | refine g_no_t ?_ | refine g_no_f ?_ | ((first | refine g_sp_t ?_ ?_ | refine g_sp_f ?_ ?_); all_goals (intro hc; have hp := hc; first | (simp at hp; done) | ((try simp at hp); first | (exfalso; omega) | skip))))); show Awp _ _ _ _ _
  (refine Awp.red (red_freeze 0 rfl ?_) ?_; (intro row hrow; obtain rfl := List.mem_singleton.1 hrow; rfl); refine Awp.red (red_fp 4 0 rfl rfl (Nat.le_of_ble_eq_true rfl)) ?_)
  repeat' (first | refine walk ?_ | fail | ((first | (apply ops_split_t; rfl; rfl; exact nle rfl) | (apply ops_split_f; rfl; rfl; exact nle rfl) | (apply awp_cond; rfl)); all_goals (intro hc; have hp := hc; first | (simp at hp; done) | ((try simp at hp); first | (exfalso; omega) | skip))) | (apply awp_cond_any; rfl))
  (refine Awp.red (red_pure (ts := [(0, graAV l), (2, .clo (.func 75) [] []), (4, .fp [g.row] 0 0), (8, .v (.int .i64 l.length)), (9, .v (.int .i64 ((0 : Nat) : Int))), (10, .v (.int .i64 l.length))]) ?_) ?_; ((repeat (first | exact tsok_nil | refine p_pure ?_ | refine p_eq ?_ ?_))))
  all_goals try (rw [List.length_map]; done)
  refine awp_loop (fun n σ => ∃ lo hi : Nat, lo ≤ hi ∧ hi ≤ l.length ∧ n = hi - lo ∧ (∀ (k : Nat) (h : k < l.length), k < lo → graLt l[k] g = true) ∧ (∀ (k : Nat) (h : k < l.length), hi ≤ k → graLt l[k] g = false) ∧ σ = ⟨[(0, graAV l), (2, .clo (.func 75) [] []), (4, .fp [g.row] 0 0), (8, .v (.int .i64 l.length)), (9, .v (.int .i64 ((lo : Nat) : Int))), (10, .v (.int .i64 ((hi : Nat) : Int)))], [], C.nh⟩) l.length ⟨0, l.length, by omega, Nat.le_refl _, rfl, fun _ _ h => absurd h (by omega), fun _ _ h => absurd h (by omega), rfl⟩ ?_
  rintro n σ ⟨lo, hi, hle, hhi, rfl, h1, h2, rfl⟩
  by_cases hlt : lo < hi
  · obtain ⟨m, hm⟩ : ∃ m : Nat, m = (lo + hi) / 2 := ⟨_, rfl⟩
    have hmi : ((lo : Int) + (hi : Int)) / 2 = (m : Int) := by omega
    have hml : m < l.length := by omega
    have hr := getRow (f := Gra.row) hml
    have hr2 : (l.map Gra.row)[(((lo : Int) + (hi : Int)) / 2).toNat]? = some l[m].row := by rw [hmi]; exact hr
    repeat' (first | refine walk ?_ | (first | (apply opsx_val; first | (apply ex_conv_u; rfl; rfl; rfl; rfl; rfl; omega; omega; exact nle rfl) | (apply ex_conv_i; rfl; rfl; rfl; rfl; rfl; omega; omega; exact nle rfl)) | (apply opsx_val; apply ex_half; (case hx => rfl); (case hy => rfl); (case hk => decide); (case hN => exact nle rfl)) | (refine o_callv Tryz.func75 (a_order ..) ?_)) | ((first | (apply ops_split_t; rfl; rfl; exact nle rfl) | (apply ops_split_f; rfl; rfl; exact nle rfl) | (apply awp_cond; rfl)); all_goals (intro hc; have hp := hc; first | (simp at hp; done) | ((try simp at hp); first | (exfalso; omega) | skip))) | (apply awp_cond_any; rfl))
    all_goals try (exfalso; omega)
    · have hmg : graLt l[m] g = true := (graCmp_neg _ _).1 hp
      refine ⟨hi - (m + 1), _, by omega, red_pure (ts := [(0, graAV l), (2, .clo (.func 75) [] []), (4, .fp [g.row] 0 0), (8, .v (.int .i64 l.length)), (9, .v (.int .i64 ((m + 1 : Nat) : Int))), (10, .v (.int .i64 ((hi : Nat) : Int)))]) ?_, m + 1, hi, by omega, hhi, rfl, fun k h hk => ?_, h2, rfl⟩
      · (repeat (first | exact tsok_nil | refine p_pure ?_ | refine p_eq ?_ ?_))
        all_goals (rw [hmi]; rfl)
      · by_cases e : k = m
        · subst e; exact hmg
        · exact graLt_trans (rising_lt hs k m h hml (by omega)) hmg
    · have hmg : graLt l[m] g = false := (by
        cases h : graLt l[m] g
        · rfl
        · have := (graCmp_neg _ _).2 h; omega)
      refine ⟨m - lo, _, by omega, red_pure (ts := [(0, graAV l), (2, .clo (.func 75) [] []), (4, .fp [g.row] 0 0), (8, .v (.int .i64 l.length)), (9, .v (.int .i64 ((lo : Nat) : Int))), (10, .v (.int .i64 ((m : Nat) : Int)))]) ?_, lo, m, by omega, by omega, rfl, h1, fun k h hk => ?_, rfl⟩
      · (repeat (first | exact tsok_nil | refine p_pure ?_ | refine p_eq ?_ ?_))
        all_goals (rw [hmi])
      · by_cases e : k = m
        · subst e; exact hmg
        · cases hkg : graLt l[k] g
          · rfl
          · rw [graLt_trans (rising_lt hs m k hml h (by omega)) hkg] at hmg; cases hmg
  obtain rfl : lo = hi := by omega
  have hpos : posG l g = lo := posG_is hhi h1 (fun h => h2 lo h (by omega))
  by_cases hin : lo < l.length
  · have hr := getRow (f := Gra.row) hin
    have hhit : hitG l g = decide (graCmp l[lo] g = 0) := by
      unfold hitG
      rw [hpos, List.getElem?_eq_getElem hin]
    repeat' (first | refine walk ?_ | (first | (refine o_callv Tryz.func75 (a_order ..) ?_)) | ((first | (apply ops_split_t; rfl; rfl; exact nle rfl) | (apply ops_split_f; rfl; rfl; exact nle rfl) | (apply awp_cond; rfl)); all_goals (intro hc; have hp := hc; first | (simp at hp; done) | ((try simp at hp); first | (exfalso; omega) | skip))) | (apply awp_cond_any; rfl))
    all_goals try (exfalso; omega)
    rw [hpos, hhit]
    (refine f_pure (rs := [.tmp 6, .tmp 7]) ?_; (repeat' (first | exact rzl_nil | apply rzl_cons | exact rz_pure rfl | exact rz_ex | exact z_os | apply rz_agg | apply rz_tup | apply rz_clo | apply rz_int | apply rz_bool | apply rz_str | refine z_eq ?_ | apply rz_sl)); all_goals trace_state)
  · have hhit : hitG l g = false := by
      unfold hitG
      rw [hpos, List.getElem?_eq_none (by omega)]
    repeat' (first | refine walk ?_ | (first | (refine o_callv Tryz.func75 (a_order ..) ?_)) | ((first | (apply ops_split_t; rfl; rfl; exact nle rfl) | (apply ops_split_f; rfl; rfl; exact nle rfl) | (apply awp_cond; rfl)); all_goals (intro hc; have hp := hc; first | (simp at hp; done) | ((try simp at hp); first | (exfalso; omega) | skip))) | (apply awp_cond_any; rfl))
    all_goals try (exfalso; omega)
    rw [hpos, hhit]
    (refine f_pure (rs := [.tmp 6, .tmp 7]) ?_; (repeat' (first | exact rzl_nil | apply rzl_cons | exact rz_pure rfl | exact rz_ex | exact z_os | apply rz_agg | apply rz_tup | apply rz_clo | apply rz_int | apply rz_bool | apply rz_str | refine z_eq ?_ | apply rz_sl)); all_goals trace_state)
end Go.Proofs.YtiljlcgmcmjcoaaGreatDoor

/- Grants in the abstract layer, 7: find, Of, RightOf, Right. -/
set_option linter.unusedSimpArgs false
set_option maxHeartbeats 1000000
namespace Go.Proofs.YtiljlcgmcmjcoaaGreatDoor
open Go.Ab Go.RowKit
set_option maxRecDepth 10000
attribute [local irreducible] Awp Ops OpsX Wanted Red ExOk Go.Ab.Fin ACall Rz RzL RzRows Enters ResOk RenV RenVL ArgV ArgVL

theorem g_find (l : List Gra) (f w : Str) (hl : l.length ≤ 1000000) (hs : rising graLt l = true) :
    AFn C.P 108 [graAV l, .v (str f), .v (str w)] (.tup [.v (.int .i64 (posG l ⟨f, w, 0⟩)), .v (.bool (hitG l ⟨f, w, 0⟩))]) := by
  have hse := a_search l ⟨f, w, 0⟩ hl hs
  refine acall_intro Tryz.func108 rfl _ Tryz.ntmps108 (Nat.le_of_ble_eq_true rfl) _ Tryz.results108 0 rfl rfl ?_
  repeat' (first | refine walk ?_ | (first | (apply to_call Tryz.func136 rfl rfl; intro hIsFn; refine o_callp hIsFn (hse ..) ?_)) | ((first | (apply awp_cond; rfl)); all_goals (intro hc; have hp := hc; first | (simp at hp; done) | ((try simp at hp); first | (exfalso; omega) | skip))) | (apply awp_cond_any; rfl))
  (refine f_pure (rs := [.tmp 6, .tmp 7]) ?_; (repeat' (first | exact rzl_nil | apply rzl_cons | exact rz_pure rfl | exact rz_ex | exact z_os | apply rz_agg | apply rz_tup | apply rz_clo | apply rz_int | apply rz_bool | apply rz_str | refine z_eq ?_ | apply rz_sl)); all_goals trace_state)
/-- Somebody's right in a folder. -/
def rightG (l : List Gra) (f w : Str) : Int := match l.find? (sameKey ⟨f, w, 0⟩) with | some g => g.right | none => 0
theorem rightG_hit {l : List Gra} (hs : rising graLt l = true) {f w : Str} (h : hitG l ⟨f, w, 0⟩ = true) : ∃ hk : posG l ⟨f, w, 0⟩ < l.length, l[posG l ⟨f, w, 0⟩].right = rightG l f w := by
  rw [hitG_any hs] at h
  obtain ⟨x, hx, hk⟩ := List.any_eq_true.1 h
  obtain ⟨k, hkl, rfl⟩ := List.getElem_of_mem hx
  have hp := posG_at hs hkl hk
  refine ⟨by omega, ?_⟩
  have hfind : l.find? (sameKey ⟨f, w, 0⟩) = some l[k] := by
    rw [List.find?_eq_some_iff_getElem]
    refine ⟨hk, k, hkl, rfl, fun j hj => ?_⟩
    cases hjk : sameKey ⟨f, w, 0⟩ l[j]
    · rfl
    · have := posG_at hs (by omega) hjk
      omega
  unfold rightG
  rw [hfind]
  simp only [hp]
theorem rightG_miss {l : List Gra} (hs : rising graLt l = true) {f w : Str} (h : hitG l ⟨f, w, 0⟩ = false) : rightG l f w = 0 := by
  rw [hitG_any hs] at h
  have : l.find? (sameKey ⟨f, w, 0⟩) = none := by
    rw [List.find?_eq_none]
    exact List.any_eq_false.1 h
  unfold rightG
  rw [this]
theorem a_of (l : List Gra) (f w : Str) (hl : l.length ≤ 1000000) (hs : rising graLt l = true) :
    AFn C.P 63 [graAV l, .v (str f), .v (str w)] (.v (.int .i64 (rightG l f w))) := by
  have hfi := g_find l f w hl hs
  cases hh : hitG l ⟨f, w, 0⟩ with
  | true =>
    rw [hh] at hfi
    obtain ⟨hk, he⟩ := rightG_hit hs hh
    have hr := getRow (f := Gra.row) hk
    rw [← he]
    refine acall_intro Tryz.func63 rfl _ Tryz.ntmps63 (Nat.le_of_ble_eq_true rfl) _ Tryz.results63 0 rfl rfl ?_
    repeat' (first | refine walk ?_ | (first | (apply to_call Tryz.func108 rfl rfl; intro hIsFn; refine o_callp hIsFn (hfi ..) ?_)) | ((first | (apply awp_cond; rfl)); all_goals (intro hc; have hp := hc; first | (simp at hp; done) | ((try simp at hp); first | (exfalso; omega) | skip))) | (apply awp_cond_any; rfl))
    all_goals (apply fin_int; rfl; rfl)
  | false =>
    rw [hh] at hfi
    rw [rightG_miss hs hh]
    refine acall_intro Tryz.func63 rfl _ Tryz.ntmps63 (Nat.le_of_ble_eq_true rfl) _ Tryz.results63 0 rfl rfl ?_
    repeat' (first | refine walk ?_ | (first | (apply to_call Tryz.func108 rfl rfl; intro hIsFn; refine o_callp hIsFn (hfi ..) ?_)) | ((first | (apply awp_cond; rfl)); all_goals (intro hc; have hp := hc; first | (simp at hp; done) | ((try simp at hp); first | (exfalso; omega) | skip))) | (apply awp_cond_any; rfl))
    all_goals (apply fin_int; rfl; rfl)
end Go.Proofs.YtiljlcgmcmjcoaaGreatDoor

/- Grants in the abstract layer, 8: Clone, Insert behind all, set where nothing stood. -/
set_option linter.unusedSimpArgs false
set_option maxHeartbeats 1000000
namespace Go.Proofs.YtiljlcgmcmjcoaaGreatDoor
open Go.Ab Go.RowKit
set_option maxRecDepth 10000
attribute [local irreducible] Awp Ops OpsX Wanted Red ExOk Go.Ab.Fin ACall Rz RzL RzRows Enters ResOk RenV RenVL ArgV ArgVL

theorem a_cloneG (l : List Gra) (hl : l.length ≤ 1000000) :
    ACall C.P 79 [graAV l] [] (.os 0 0 l.length) [.own false 3 (l.map Gra.row)] := by
  by_cases h0 : l = []
  · subst h0
    refine acall_intro Tryz.func79 rfl _ Tryz.ntmps79 (Nat.le_of_ble_eq_true rfl) _ Tryz.results79 0 rfl rfl ?_
    repeat' (first | refine walk ?_ | (first | (refine o_fzl ?_) | (refine o_appn ?_) | (refine o_isnil ?_)) | ((first | (apply awp_cond; rfl)); all_goals (intro hc; have hp := hc; first | (simp at hp; done) | ((try simp at hp); first | (exfalso; omega) | skip))) | (apply awp_cond_any; rfl))
    · (refine fin_red (C := C) (red_nil (C := C) 2 3 rfl (Nat.zero_le _)) ?_)
      (apply fin_ownr (rs := [.tmp 2]) [(0, 0)] 1; (case hr => (repeat (first | exact resok_nil | (apply resok_tmp; rfl) | (apply resok_cell; rfl; rfl; rfl; rfl; rfl)))); (case hL => rfl); (case hh => (repeat (first | exact hsok_nil | refine q_id ?_ | refine q_idx ?_ ?_)); all_goals skip); (case hi => first | exact (rfl : _ = ([] : List (Nat × Nat))) | exact (rfl : _ = [((0 : Nat), (0 : Nat))]) | exact (rfl : _ = [((0 : Nat), (0 : Nat)), (1, 1)])); (case hz => first | rfl | (simp [pack, AV.ren, AV.ren.renL, lookN, getT, enumT]; done) | (simp [pack, AV.ren, AV.ren.renL, lookN, getT, enumT, *]; done) | skip))
    · (apply fin_ownr (rs := [.tmp 2]) [(0, 0)] 1; (case hr => (repeat (first | exact resok_nil | (apply resok_tmp; rfl) | (apply resok_cell; rfl; rfl; rfl; rfl; rfl)))); (case hL => rfl); (case hh => (repeat (first | exact hsok_nil | refine q_id ?_ | refine q_idx ?_ ?_)); all_goals skip); (case hi => first | exact (rfl : _ = ([] : List (Nat × Nat))) | exact (rfl : _ = [((0 : Nat), (0 : Nat))]) | exact (rfl : _ = [((0 : Nat), (0 : Nat)), (1, 1)])); (case hz => first | rfl | (simp [pack, AV.ren, AV.ren.renL, lookN, getT, enumT]; done) | (simp [pack, AV.ren, AV.ren.renL, lookN, getT, enumT, *]; done) | skip))
  · refine acall_intro Tryz.func79 rfl _ Tryz.ntmps79 (Nat.le_of_ble_eq_true rfl) _ Tryz.results79 0 rfl rfl ?_
    repeat' (first | refine walk ?_ | (first | (refine o_fzl ?_) | (refine o_appn ?_) | (apply opsx_val; apply ex_notnil; rfl; exact (fun h => h0 (List.map_eq_nil_iff.1 h)); rfl; rfl; (first | exact .inl rfl | exact .inr rfl); exact nle rfl)) | ((first | (apply awp_cond; rfl)); all_goals (intro hc; have hp := hc; first | (simp at hp; done) | ((try simp at hp); first | (exfalso; omega) | skip))) | (apply awp_cond_any; rfl))
    (apply fin_ownr (rs := [.tmp 2]) [(0, 0)] 1; (case hr => (repeat (first | exact resok_nil | (apply resok_tmp; rfl) | (apply resok_cell; rfl; rfl; rfl; rfl; rfl)))); (case hL => rfl); (case hh => (repeat (first | exact hsok_nil | refine q_id ?_ | refine q_idx ?_ ?_)); all_goals skip); (case hi => first | exact (rfl : _ = ([] : List (Nat × Nat))) | exact (rfl : _ = [((0 : Nat), (0 : Nat))]) | exact (rfl : _ = [((0 : Nat), (0 : Nat)), (1, 1)])); (case hz => first | rfl | (simp [pack, AV.ren, AV.ren.renL, lookN, getT, enumT]; done) | (simp [pack, AV.ren, AV.ren.renL, lookN, getT, enumT, *]; done) | skip))

theorem g_insertEnd (l : List Gra) (g : Gra) (hl : l.length ≤ 1000000) :
    ACall C1.P 134 [.os 0 0 l.length, .v (.int .i64 l.length), .sl false [g.row]] [.own false 3 (l.map Gra.row)] (.os 1 0 (l.length + 1)) [.dead, .own false 3 ((l ++ [g]).map Gra.row)] := by
  refine acall_intro (C := C1) Tryz.func134 rfl _ Tryz.ntmps134 (Nat.le_of_ble_eq_true rfl) _ Tryz.results134 1 rfl rfl ?_
  repeat' (first | refine walk ?_ | (first | (refine o_slo ?_) | (refine o_appo ?_)) | ((first | (apply ops_split_t; rfl; rfl; exact nle rfl) | (apply ops_split_f; rfl; rfl; exact nle rfl) | (apply awp_cond; rfl)); all_goals (intro hc; have hp := hc; first | (simp at hp; done) | ((try simp at hp); first | (exfalso; omega) | skip))) | (apply awp_cond_any; rfl))
  (apply fin_ownr (rs := [.tmp 6]) [(1, 1)] 2; (case hr => (repeat (first | exact resok_nil | (apply resok_tmp; rfl) | (apply resok_cell; rfl; rfl; rfl; rfl; rfl)))); (case hL => rfl); (case hh => (apply hsok_dead 0; exact maps_low rfl; (repeat (first | exact hsok_nil | refine q_id ?_ | refine q_idx ?_ ?_))); all_goals trace_state); (case hi => first | exact (rfl : _ = ([] : List (Nat × Nat))) | exact (rfl : _ = [((0 : Nat), (0 : Nat))]) | exact (rfl : _ = [((0 : Nat), (0 : Nat)), (1, 1)])); (case hz => first | rfl | (simp [pack, AV.ren, AV.ren.renL, lookN, getT, enumT]; done) | (simp [pack, AV.ren, AV.ren.renL, lookN, getT, enumT, *]; done) | skip))
end Go.Proofs.YtiljlcgmcmjcoaaGreatDoor

/- Grants in the abstract layer, 9: what must be in any case. -/
set_option linter.unusedSimpArgs false
set_option maxHeartbeats 1000000
namespace Go.Proofs.YtiljlcgmcmjcoaaGreatDoor
open Go.Ab Go.RowKit
set_option maxRecDepth 10000
attribute [local irreducible] Awp Ops OpsX Wanted Red ExOk Go.Ab.Fin ACall Rz RzL RzRows Enters ResOk RenV RenVL ArgV ArgVL

theorem a_setEnd (l : List Gra) (f w : Str) (r : Int) (hl : l.length ≤ 1000000) (hs : rising graLt l = true) (hr : r ≠ 0) (hh : hitG l ⟨f, w, 0⟩ = false) (hp : posG l ⟨f, w, 0⟩ = l.length) :
    ACall C.P 104 [graAV l, .v (str f), .v (str w), .v (.int .i64 r)] [] (.os 0 0 (l.length + 1)) [.own false 3 ((l ++ [(⟨f, w, r⟩ : Gra)]).map Gra.row)] := by
  have hfi := g_find l f w hl hs
  rw [hh, hp] at hfi
  have hin := g_insertEnd l ⟨f, w, r⟩ hl
  refine acall_intro Tryz.func104 rfl _ Tryz.ntmps104 (Nat.le_of_ble_eq_true rfl) _ Tryz.results104 0 rfl rfl ?_
  repeat' (first | refine walk ?_ | (first | (apply to_call Tryz.func79 rfl rfl; intro hIsFn; refine o_callo ([]) hIsFn (a_cloneG l hl ..) ?_) | (apply opsx_val; apply ex_call ([0]); exact isFn_of Tryz.func108 rfl rfl; apply hfi; (case hz => (repeat' (first | exact rzl_nil | apply rzl_cons | exact rz_pure rfl | exact rz_ex | (apply rz_os_pure; (case hn => rfl); (case hl => first | with_reducible rfl | (simp; done) | (simp [*]; done) | omega); (case hp => (first | assumption | exact pures_all rfl | exact pures_map fun _ => rfl))) | apply rz_agg | apply rz_clo))); (case hfl => rfl); (case hN => exact nle rfl)) | (refine o_fzl ?_) | (apply to_call Tryz.func134 rfl rfl; intro hIsFn; refine o_callg ([0]) 0 hIsFn (hin ..) ?_)) | ((first | (apply awp_cond; rfl)); all_goals (intro hc; have hp := hc; first | (simp at hp; done) | ((try simp at hp); first | (exfalso; omega) | skip))) | (apply awp_cond_any; rfl))
  all_goals try (exfalso; omega)
  (apply fin_ownr (rs := [.tmp 8]) [(1, 0)] 1; (case hr => (repeat (first | exact resok_nil | (apply resok_tmp; rfl) | (apply resok_cell; rfl; rfl; rfl; rfl; rfl)))); (case hL => rfl); (case hh => (repeat (first | exact hsok_nil | refine q_id ?_ | refine q_idx ?_ ?_)); all_goals trace_state); (case hi => first | exact (rfl : _ = ([] : List (Nat × Nat))) | exact (rfl : _ = [((0 : Nat), (0 : Nat))]) | exact (rfl : _ = [((0 : Nat), (0 : Nat)), (1, 1)])); (case hz => first | rfl | (simp [pack, AV.ren, AV.ren.renL, lookN, getT, enumT]; done) | (simp [pack, AV.ren, AV.ren.renL, lookN, getT, enumT, *]; done) | trace_state))

theorem a_indexG (p : Gra → Bool) (g : FuncId) (hg : IsFn C.P g) (cap : List AV) (hcap : AV.pure.pureL cap = true) (l : List (Gra)) (hl : l.length ≤ 1000000) (hc : ∀ s, s ∈ l → AFn C.P g ((AV.agg (Gra.row s)) :: cap) (.v (.bool (p s)))) :
    AFn C.P 132 [.sl false (l.map Gra.row), .clo (.func g) [] cap] (.v (.int .i64 (idxOf p l))) := by
  refine acall_intro Tryz.func132 rfl _ Tryz.ntmps132 (Nat.le_of_ble_eq_true rfl) _ Tryz.results132 0 rfl rfl ?_
  repeat' (first | refine walk ?_ | fail | ((first | (apply awp_cond; rfl)); all_goals (intro hc; have hp := hc; first | (simp at hp; done) | ((try simp at hp); first | (exfalso; omega) | skip))) | (apply awp_cond_any; rfl))
  (refine Awp.red (red_pure (ts := [(0, .sl false (l.map Gra.row)), (1, .clo (.func g) [] cap), (7, .v (.int .i64 l.length)), (8, .v (.int .i64 ((0 : Nat) : Int)))]) ?_) ?_; ((repeat (first | exact tsok_nil | refine p_pure ?_ | refine p_eq ?_ ?_))))
  all_goals try (rw [List.length_map]; done)
  refine awp_loop (fun n σ => ∃ i : Nat, i ≤ l.length ∧ n = l.length - i ∧ (∀ s, s ∈ l.take i → p s = false) ∧ σ = ⟨[(0, .sl false (l.map Gra.row)), (1, .clo (.func g) [] cap), (7, .v (.int .i64 l.length)), (8, .v (.int .i64 (i : Int)))], [], C.nh⟩) l.length ⟨0, Nat.zero_le _, rfl, (by simp), rfl⟩ ?_
  rintro n σ ⟨i, hi, rfl, hsofar, rfl⟩
  by_cases hlt : i < l.length
  · have hr := getRow (f := Gra.row) hlt
    have hci := hc l[i] (List.getElem_mem _)
    repeat' (first | refine walk ?_ | (first | (apply opsx_val; apply ex_callv []; rfl; exact hg; exact hci; (case hz => exact rzl_cons (rz_pure rfl) (rzl_self hcap)); (case hfl => rfl); (case hN => exact nle rfl))) | ((first | (apply awp_cond; rfl)); all_goals (intro hc; have hp := hc; first | (simp at hp; done) | ((try simp at hp); first | (exfalso; omega) | skip))) | (apply awp_cond_any; rfl))
    all_goals try (exfalso; omega)
    · apply fin_int
      rfl
      exact (idxOf_at hlt hsofar hp).symm
    · refine ⟨l.length - (i + 1), _, by omega, red_pure (ts := [(0, .sl false (l.map Gra.row)), (1, .clo (.func g) [] cap), (7, .v (.int .i64 l.length)), (8, .v (.int .i64 ((i + 1 : Nat) : Int)))]) ?_, i + 1, by omega, rfl, mem_take_succ hlt hsofar hp, rfl⟩; ((repeat (first | exact tsok_nil | refine p_pure ?_ | refine p_eq ?_ ?_)))
  obtain rfl : i = l.length := by omega
  repeat' (first | refine walk ?_ | fail | ((first | (apply awp_cond; rfl)); all_goals (intro hc; have hp := hc; first | (simp at hp; done) | ((try simp at hp); first | (exfalso; omega) | skip))) | (apply awp_cond_any; rfl))
  all_goals try (exfalso; omega)
  apply fin_int
  rfl
  exact (idxOf_none fun s hs => hsofar s (by rw [List.take_length]; exact hs)).symm
theorem a_containsG (p : Gra → Bool) (g : FuncId) (hg : IsFn C.P g) (cap : List AV) (hcap : AV.pure.pureL cap = true) (l : List (Gra)) (hl : l.length ≤ 1000000) (hc : ∀ s, s ∈ l → AFn C.P g ((AV.agg (Gra.row s)) :: cap) (.v (.bool (p s)))) :
    AFn C.P 102 [.sl false (l.map Gra.row), .clo (.func g) [] cap] (.v (.bool (l.any p))) := by
  have hidx := a_indexG p g hg cap hcap l hl hc
  refine acall_intro Tryz.func102 rfl _ Tryz.ntmps102 (Nat.le_of_ble_eq_true rfl) _ Tryz.results102 0 rfl rfl ?_
  repeat' (first | refine walk ?_ | (first | (apply opsx_val; apply ex_call []; exact isFn_of Tryz.func132 rfl rfl; exact hidx; (case hz => exact rzl_cons (rz_pure rfl) (rzl_cons (rz_clo_pure hcap) rzl_nil)); (case hfl => rfl); (case hN => exact nle rfl))) | ((first | (apply awp_cond; rfl)); all_goals (intro hc; have hp := hc; first | (simp at hp; done) | ((try simp at hp); first | (exfalso; omega) | skip))) | (apply awp_cond_any; rfl))
  apply fin_bool
  rfl
  rw [← idxOf_any]
def inFolder (f : Str) (g : Gra) : Bool := decide (g.folder = f)
theorem a_makeC (g : Gra) (f : Str) : AFn C.P 103 [.agg g.row, .fp [[.v (str f)]] 0 0] (.v (.bool (inFolder f g))) := by
  refine acall_intro Tryz.func103 rfl _ Tryz.ntmps103 (Nat.le_of_ble_eq_true rfl) _ Tryz.results103 0 rfl rfl ?_
  repeat' (first | refine walk ?_ | fail | ((first | (apply awp_cond; rfl)); all_goals (intro hc; have hp := hc; first | (simp at hp; done) | ((try simp at hp); first | (exfalso; omega) | skip))) | (apply awp_cond_any; rfl))
  all_goals (apply fin_bool; rfl; simp_all [inFolder])
def ownIn (f : Str) (g : Gra) : Bool := decide (g.folder = f) && decide (g.right = 3)
theorem a_giveC (g : Gra) (f : Str) : AFn C.P 105 [.agg g.row, .fp [[.v (str f)]] 0 0] (.v (.bool (ownIn f g))) := by
  refine acall_intro Tryz.func105 rfl _ Tryz.ntmps105 (Nat.le_of_ble_eq_true rfl) _ Tryz.results105 0 rfl rfl ?_
  repeat' (first | refine walk ?_ | fail | ((first | (apply ops_split_t; rfl; rfl; exact nle rfl) | (apply ops_split_f; rfl; rfl; exact nle rfl) | (apply awp_cond; rfl)); all_goals (intro hc; have hp := hc; first | (simp at hp; done) | ((try simp at hp); first | (exfalso; omega) | skip))) | (apply awp_cond_any; rfl))
  all_goals (apply fin_bool; rfl; simp_all [ownIn])

def makeErr (l : List Gra) (f w : Str) : Int :=
  if graErr l = 0 then
    if isName f && isName w then
      if l.any (inFolder f) then 6 else if l.length = 60 then 2 else 0
    else 1
  else graErr l
theorem graErr_len {l : List Gra} (h : graErr l = 0) : l.length ≤ 60 := by
  unfold graErr at h
  split at h
  · omega
  · omega
theorem a_make_bad (l : List Gra) (hl : GBig l) (f w : Str) (hf : f.length ≤ 140737488355328) (hw : w.length ≤ 140737488355328) (he : makeErr l f w ≠ 0) :
    AFn C.P 60 [graAV l, .v (str f), .v (str w)] (.tup [graAV [], .v (.int .i64 (makeErr l f w))]) := by
  have hch := a_gcheck l hl
  by_cases h0 : graErr l = 0
  · rw [h0] at hch
    have hlen := graErr_len h0
    have hnm := a_names [f, w] (by simp) (by simp; exact ⟨hf, hw⟩)
    simp only [List.map, List.all_cons, List.all_nil, Bool.and_true] at hnm
    have hcon := a_containsG (inFolder f) 103 (isFn_of Tryz.func103 rfl rfl) [.fp [[.v (str f)]] 0 0] rfl l (by omega) (fun g _ => a_makeC g f)
    refine acall_intro Tryz.func60 rfl _ Tryz.ntmps60 (Nat.le_of_ble_eq_true rfl) _ Tryz.results60 0 rfl rfl ?_
    (repeat apply awp_seq); apply awp_region; (repeat' (first | apply ops_free | refine o_mv ?_ | refine o_as ?_ | refine o_ld ?_ | refine o_bi ?_ | refine o_ln ?_ | refine o_no ?_ | refine o_fn ?_ | refine o_bx ?_ | (first | fail) | refine r_nil ?_)); show Awp _ _ _ _ _
    (refine Awp.red (red_freeze 0 rfl ?_) ?_; (intro row hrow; obtain rfl := List.mem_singleton.1 hrow; rfl); refine Awp.red (red_fp 4 0 rfl rfl (Nat.le_of_ble_eq_true rfl)) ?_)
    repeat' (first | refine walk ?_ | (first | (apply to_call Tryz.func39 rfl rfl; intro hIsFn; refine o_callf hIsFn (hch ..) ?_; skip) | (apply to_call Tryz.func62 rfl rfl; intro hIsFn; refine o_callp hIsFn (hnm ..) ?_) | (refine o_fzl ?_) | (apply to_call Tryz.func102 rfl rfl; intro hIsFn; refine o_callp hIsFn (hcon ..) ?_)) | ((first | (apply awp_cond; rfl)); all_goals (intro hc; have hp := hc; first | (simp at hp; done) | ((try simp at hp); first | (exfalso; omega) | skip))) | (apply awp_cond_any; rfl))
    all_goals try (exfalso; simp_all [makeErr]; done)
    · have h1 : makeErr l f w = 1 := by
        rcases hp with hp | hp <;> simp [makeErr, h0, hp]
      rw [h1]
      (refine f_pure (rs := [.tmp 6, .tmp 7]) ?_; (repeat' (first | exact rzl_nil | apply rzl_cons | exact rz_pure rfl | exact rz_ex | exact z_os | apply rz_agg | apply rz_tup | apply rz_clo | apply rz_int | apply rz_bool | apply rz_str | refine z_eq ?_ | apply rz_sl)); all_goals skip)
    · have h1 : makeErr l f w = 6 := by simp_all [makeErr]
      rw [h1]
      (refine f_pure (rs := [.tmp 6, .tmp 7]) ?_; (repeat' (first | exact rzl_nil | apply rzl_cons | exact rz_pure rfl | exact rz_ex | exact z_os | apply rz_agg | apply rz_tup | apply rz_clo | apply rz_int | apply rz_bool | apply rz_str | refine z_eq ?_ | apply rz_sl)); all_goals skip)
    · have h1 : makeErr l f w = 2 := by
        have h60 : l.length = 60 := by omega
        simp_all [makeErr]
      rw [h1]
      (refine f_pure (rs := [.tmp 6, .tmp 7]) ?_; (repeat' (first | exact rzl_nil | apply rzl_cons | exact rz_pure rfl | exact rz_ex | exact z_os | apply rz_agg | apply rz_tup | apply rz_clo | apply rz_int | apply rz_bool | apply rz_str | refine z_eq ?_ | apply rz_sl)); all_goals skip)
  · refine acall_intro Tryz.func60 rfl _ Tryz.ntmps60 (Nat.le_of_ble_eq_true rfl) _ Tryz.results60 0 rfl rfl ?_
    repeat' (first | refine walk ?_ | (first | (apply to_call Tryz.func39 rfl rfl; intro hIsFn; refine o_callf hIsFn (hch ..) ?_; skip)) | ((first | (apply awp_cond; rfl)); all_goals (intro hc; have hp := hc; first | (simp at hp; done) | ((try simp at hp); first | (exfalso; omega) | skip))) | (apply awp_cond_any; rfl))
    all_goals try (exfalso; simp_all; done)
    rw [show makeErr l f w = graErr l from by simp [makeErr, h0]]
    (refine f_pure (rs := [.tmp 6, .tmp 7]) ?_; (repeat' (first | exact rzl_nil | apply rzl_cons | exact rz_pure rfl | exact rz_ex | exact z_os | apply rz_agg | apply rz_tup | apply rz_clo | apply rz_int | apply rz_bool | apply rz_str | refine z_eq ?_ | apply rz_sl)); all_goals skip)

theorem a_make_ok (l : List Gra) (hl : GBig l) (f w : Str) (hf : f.length ≤ 140737488355328) (hw : w.length ≤ 140737488355328) (he : makeErr l f w = 0) (L : List Gra)
    (hset : ACall C.P 104 [graAV l, .v (str f), .v (str w), .v (.int .i64 3)] [] (.os 0 0 L.length) [.own false 3 (L.map Gra.row)]) :
    AFn C.P 60 [graAV l, .v (str f), .v (str w)] (.tup [graAV L, .v (.int .i64 0)]) := by
  have hch := a_gcheck l hl
  have h0 : graErr l = 0 := by
    cases Classical.em (graErr l = 0) with
    | inl h => exact h
    | inr h => simp [makeErr, h] at he
  rw [h0] at hch
  have hlen := graErr_len h0
  have hnm := a_names [f, w] (by simp) (by simp; exact ⟨hf, hw⟩)
  simp only [List.map, List.all_cons, List.all_nil, Bool.and_true] at hnm
  have hcon := a_containsG (inFolder f) 103 (isFn_of Tryz.func103 rfl rfl) [.fp [[.v (str f)]] 0 0] rfl l (by omega) (fun g _ => a_makeC g f)
  have hb1 : (isName f && isName w) = true := by
    cases h : isName f && isName w
    · simp [makeErr, h0, h] at he
    · rfl
  have hb2 : l.any (inFolder f) = false := by
    cases h : l.any (inFolder f)
    · rfl
    · simp only [makeErr, h0, hb1, h, if_true] at he; omega
  have hb3 : l.length ≠ 60 := by
    intro h
    simp [makeErr, h0, hb1, hb2, h] at he
  rw [hb1] at hnm
  rw [hb2] at hcon
  refine acall_intro Tryz.func60 rfl _ Tryz.ntmps60 (Nat.le_of_ble_eq_true rfl) _ Tryz.results60 0 rfl rfl ?_
  (repeat apply awp_seq); apply awp_region; (repeat' (first | apply ops_free | refine o_mv ?_ | refine o_as ?_ | refine o_ld ?_ | refine o_bi ?_ | refine o_ln ?_ | refine o_no ?_ | refine o_fn ?_ | refine o_bx ?_ | (first | fail) | refine r_nil ?_)); show Awp _ _ _ _ _
  (refine Awp.red (red_freeze 0 rfl ?_) ?_; (intro row hrow; obtain rfl := List.mem_singleton.1 hrow; rfl); refine Awp.red (red_fp 4 0 rfl rfl (Nat.le_of_ble_eq_true rfl)) ?_)
  repeat' (first | refine walk ?_ | (first | (apply to_call Tryz.func39 rfl rfl; intro hIsFn; refine o_callf hIsFn (hch ..) ?_; skip) | (apply to_call Tryz.func62 rfl rfl; intro hIsFn; refine o_callp hIsFn (hnm ..) ?_) | (refine o_fzl ?_) | (apply to_call Tryz.func102 rfl rfl; intro hIsFn; refine o_callp hIsFn (hcon ..) ?_) | (apply to_call Tryz.func104 rfl rfl; intro hIsFn; refine o_callo ([]) hIsFn (hset ..) ?_)) | ((first | (apply awp_cond; rfl)); all_goals (intro hc; have hp := hc; first | (simp at hp; done) | ((try simp at hp); first | (exfalso; omega) | skip))) | (apply awp_cond_any; rfl))
  all_goals try (exfalso; omega)
  (refine f_pure (rs := [.tmp 6, .tmp 7]) ?_; (repeat' (first | exact rzl_nil | apply rzl_cons | exact rz_pure rfl | exact rz_ex | exact z_os | apply rz_agg | apply rz_tup | apply rz_clo | apply rz_int | apply rz_bool | apply rz_str | refine z_eq ?_ | apply rz_sl)); all_goals skip)
end Go.Proofs.YtiljlcgmcmjcoaaGreatDoor

/- Grants in the abstract layer, 13: Insert in the midst. -/
set_option linter.unusedSimpArgs false
set_option maxHeartbeats 1000000
namespace Go.Proofs.YtiljlcgmcmjcoaaGreatDoor
open Go.Ab Go.RowKit
set_option maxRecDepth 10000
attribute [local irreducible] Awp Ops OpsX Wanted Red ExOk Go.Ab.Fin ACall Rz RzL RzRows Enters ResOk RenV RenVL ArgV ArgVL

theorem g_insnew {α : Type} (R J Z : List α) (x : α) {i a b c d : Nat} (hi : i ≤ R.length) (hJ : J.length = 1 + Z.length) (ha : a = i) (hb : b = i + 1) (hc : c = i + 1) (hd : d = i + 1 + Z.length) :
    ((R.take i ++ J).take a ++ [x] ++ (R.take i ++ J).drop b).take c ++ Z ++ ((R.take i ++ J).take a ++ [x] ++ (R.take i ++ J).drop b).drop d = R.take i ++ ([x] ++ Z) := by
  subst ha; subst hb; subst hc; subst hd
  have h1 : (R.take a ++ J).take a = R.take a := by rw [List.take_append_of_le_length (by simp; omega), List.take_of_length_le (by simp; omega)]
  have h2 : (R.take a ++ [x] ++ (R.take a ++ J).drop (a + 1)).take (a + 1) = R.take a ++ [x] := by
    rw [List.take_append_of_le_length (by simp; omega), List.take_of_length_le (by simp; omega)]
  have h3 : (R.take a ++ [x] ++ (R.take a ++ J).drop (a + 1)).drop (a + 1 + Z.length) = [] := List.drop_of_length_le (by simp; omega)
  rw [h1, h2, h3]; simp
theorem g_insin {α : Type} (R Z : List α) (x : α) {i a b c d m : Nat} (hi : i + 1 ≤ R.length) (ha : a = i + 1) (hc : c = i) (hd : d = i + 1) (hm : m = i + 1 + Z.length) :
    ((R.take a ++ Z ++ R.drop b).take c ++ [x] ++ (R.take a ++ Z ++ R.drop b).drop d).take m = R.take i ++ ([x] ++ Z) := by
  subst ha; subst hc; subst hd; subst hm
  have h1 : (R.take (c + 1) ++ Z ++ R.drop b).take c = R.take c := by
    rw [List.append_assoc, List.take_append_of_le_length (by simp; omega), List.take_take, Nat.min_eq_left (by omega)]
  have h2 : (R.take (c + 1) ++ Z ++ R.drop b).drop (c + 1) = Z ++ R.drop b := by
    rw [List.append_assoc, List.drop_append_of_le_length (by simp; omega), List.drop_of_length_le (by simp; omega), List.nil_append]
  rw [h1, h2, ← List.append_assoc, List.take_append_of_le_length (by simp; omega), List.take_of_length_le (by simp; omega), List.append_assoc]
theorem g_insertAt (l : List Gra) (g : Gra) (i : Nat) (hi : i < l.length) (hl : l.length ≤ 1000000) :
    ACall C1.P 134 [.os 0 0 l.length, .v (.int .i64 (i : Int)), .sl false [g.row]] [.own false 3 (l.map Gra.row)] (.os 1 0 (l.length + 1)) [.dead, .own false 3 ((l.take i ++ ([g] ++ l.drop i)).map Gra.row)] := by
  refine acall_intro (C := C1) Tryz.func134 rfl _ Tryz.ntmps134 (Nat.le_of_ble_eq_true rfl) _ Tryz.results134 1 rfl rfl ?_
  refine awp_cap 0 3 (l.map Gra.row) rfl fun cap hcap => ?_
  rw [List.length_map] at hcap
  have hRt : (l.map Gra.row ++ junks 3 (cap - (l.map Gra.row).length)).take l.length = l.map Gra.row := by
    rw [List.take_append_of_le_length (by simp), List.take_of_length_le (by simp)]
  have hRl : l.length ≤ (l.map Gra.row ++ junks 3 (cap - (l.map Gra.row).length)).length := by simp
  generalize l.map Gra.row ++ junks 3 (cap - (l.map Gra.row).length) = R at hRt hRl ⊢
  have hcut : (R.drop i).take (l.length - i) = (l.drop i).map Gra.row := by rw [← List.drop_take, hRt, List.map_drop]
  have hti : R.take i = (l.take i).map Gra.row := by rw [List.map_take, ← hRt, List.take_take, Nat.min_eq_left (by omega)]
  have hck : ∀ row, row ∈ (l.drop i).map Gra.row → row.length = 3 := fun row hr => by obtain ⟨x, _, rfl⟩ := List.mem_map.1 hr; rfl
  have hcl : ∀ row, row ∈ (l.drop i).map Gra.row → row.all cellLike = true := fun row hr => by obtain ⟨x, _, rfl⟩ := List.mem_map.1 hr; rfl
  repeat' (first | refine walk ?_ | (first | (refine o_slo ?_) | (apply opsx_val; apply ex_cap_os; (case hx => rfl); (case hn => rfl); (case hT => rfl); (case he => rfl); (case hN => exact nle rfl)) | (apply opsx_new; apply ex_append_make; (case hx => rfl); (case hT => rfl); (case he => rfl); (case hE => rfl); (case hn => rfl); (case hl => (first | omega | (simp; done) | (simp only [List.length_cons, List.length_nil, List.length_map]; omega) | (simp; omega))); (case hy => exact congrArg (fun z => AV.v (Value.int IntKind.i64 z)) (show ((l.length + 1 : Nat) : Int) - (i : Int) = ((l.length + 1 - i : Nat) : Int) from by omega)); (case hxT => rfl); (case hxk => rfl); (case hz => rfl); (case hs0 => exact Nat.ne_of_beq_eq_false rfl); (case hg => omega); (case hsz => (first | omega | (simp; done) | (simp only [List.length_cons, List.length_nil, List.length_map]; omega) | (simp; omega))); (case hlen => (first | omega | (simp; done) | (simp only [List.length_cons, List.length_nil, List.length_map]; omega) | (simp; omega))); (case hN => exact nle rfl)) | (apply opsx_val; apply ex_overlaps; exact Tryz.func167; (case hname => rfl); (case hb => rfl); (case hnx => rfl); (case hex => rfl); (case hT => rfl); (case he => rfl); (case hE => rfl); (case hx => rfl); (case hy => rfl); (case hm => rfl); (case hk => exact Nat.ne_of_beq_eq_false rfl); (case hrw => intro row hrow; rw [List.mem_singleton.1 hrow]; exact Nat.succ_ne_zero _); (case hN => exact nle rfl)) | (apply opsx_upd; apply ex_copy_os; (case hx => rfl); (case hT => rfl); (case he => rfl); (case hE => rfl); (case hn => rfl); (case hsrc => exact srcC_of (srcA_sl rfl rfl)); (case hmin => exact Nat.min_eq_left (by (first | omega | (simp; done) | (simp only [List.length_cons, List.length_nil, List.length_map]; omega) | (simp; omega)))); (case hfit => (first | omega | (simp; done) | (simp only [List.length_cons, List.length_nil, List.length_map]; omega) | (simp; omega))); (case hN => exact nle rfl)) | (apply opsx_upd; apply ex_copy_os; (case hx => rfl); (case hT => rfl); (case he => rfl); (case hE => rfl); (case hn => rfl); (case hsrc => exact srcC_cut (cnt := l.length - i) rfl (List.mem_singleton.2 rfl) rfl (by omega) (by omega) (by first | exact hcut | simpa using hcut) hck hcl); (case hmin => (first | exact (Nat.min_eq_left (by (first | omega | (simp; done) | (simp only [List.length_cons, List.length_nil, List.length_map]; omega) | (simp; omega)))).trans (by (first | omega | (simp; done) | (simp only [List.length_cons, List.length_nil, List.length_map]; omega) | (simp; omega))) | exact (Nat.min_eq_right (by (first | omega | (simp; done) | (simp only [List.length_cons, List.length_nil, List.length_map]; omega) | (simp; omega)))).trans (by (first | omega | (simp; done) | (simp only [List.length_cons, List.length_nil, List.length_map]; omega) | (simp; omega))))); (case hfit => (first | omega | (simp; done) | (simp only [List.length_cons, List.length_nil, List.length_map]; omega) | (simp; omega))); (case hN => exact nle rfl))) | ((first | (apply ops_split_t; rfl; rfl; exact nle rfl) | (apply ops_split_f; rfl; rfl; exact nle rfl) | (apply awp_cond; rfl)); all_goals (intro hc; have hp := hc; first | (simp at hp; done) | ((try simp at hp); first | (exfalso; omega) | skip))) | (apply awp_cond_any; rfl))
  all_goals try (exfalso; omega)
  · have hrow := g_insnew R (junks 3 (l.length + 1 - i)) ((l.drop i).map Gra.row) g.row (i := i) (a := 0 + i) (b := 0 + i + 1) (c := 0 + (i + 1)) (d := 0 + (i + 1) + ((l.drop i).map Gra.row).length) (by omega) (by simp; omega) (by omega) (by omega) (by omega) (by omega)
    (apply fin_ownr (rs := [.tmp 6]) [(1, 1)] 2; (case hr => (repeat (first | exact resok_nil | (apply resok_tmp; rfl) | (apply resok_cell; rfl; rfl; rfl; rfl; rfl)))); (case hL => rfl); (case hh => (apply hsok_dead 0; exact maps_low rfl; (repeat (first | exact hsok_nil | refine q_id ?_ | refine q_idx ?_ ?_))); all_goals (refine hrow.trans ?_; rw [hti]; simp)); (case hi => first | exact (rfl : _ = ([] : List (Nat × Nat))) | exact (rfl : _ = [((0 : Nat), (0 : Nat))]) | exact (rfl : _ = [((0 : Nat), (0 : Nat)), (1, 1)])); (case hz => first | rfl | (simp [pack, AV.ren, AV.ren.renL, lookN, getT, enumT]; done) | (simp [pack, AV.ren, AV.ren.renL, lookN, getT, enumT, *]; done) | (simp [pack, AV.ren, AV.ren.renL, lookN, getT, enumT]; omega)))
  · have hrow := g_insin R ((l.drop i).map Gra.row) g.row (i := i) (a := 0 + 0 + (i + 1)) (b := 0 + 0 + (i + 1) + ((l.drop i).map Gra.row).length) (c := 0 + 0 + i) (d := 0 + 0 + i + 1) (m := l.length + 1) (by omega) (by omega) (by omega) (by omega) (by simp; omega)
    have hrow := hrow.trans (show _ = (l.take i ++ ([g] ++ l.drop i)).map Gra.row from by rw [hti]; simp)
    apply fin_move (C := C1) 6 0 (l.length + 1)
    case hi => rfl
    case hn => rfl
    case hr => exact hrow
    case hnn => exact Nat.ne_of_beq_eq_false rfl
    case hnx => exact Nat.le_of_ble_eq_true rfl
    (apply fin_ownr (rs := [.tmp 6]) [(1, 1)] 2; (case hr => (repeat (first | exact resok_nil | (apply resok_tmp; rfl) | (apply resok_cell; rfl; rfl; rfl; rfl; rfl)))); (case hL => rfl); (case hh => (apply hsok_dead 0; exact maps_low rfl; (repeat (first | exact hsok_nil | refine q_id ?_ | refine q_idx ?_ ?_))); all_goals trace_state); (case hi => first | exact (rfl : _ = ([] : List (Nat × Nat))) | exact (rfl : _ = [((0 : Nat), (0 : Nat))]) | exact (rfl : _ = [((0 : Nat), (0 : Nat)), (1, 1)])); (case hz => first | rfl | (simp [pack, AV.ren, AV.ren.renL, lookN, getT, enumT]; done) | (simp [pack, AV.ren, AV.ren.renL, lookN, getT, enumT, *]; done) | (simp [pack, AV.ren, AV.ren.renL, lookN, getT, enumT]; omega)))
end Go.Proofs.YtiljlcgmcmjcoaaGreatDoor

/- Grants in the abstract layer, 10: Give; what must be in any case. -/
set_option linter.unusedSimpArgs false
set_option maxHeartbeats 1000000
namespace Go.Proofs.YtiljlcgmcmjcoaaGreatDoor
open Go.Ab Go.RowKit
set_option maxRecDepth 10000
attribute [local irreducible] Awp Ops OpsX Wanted Red ExOk Go.Ab.Fin ACall Rz RzL RzRows Enters ResOk RenV RenVL ArgV ArgVL

def giveErr1 (l : List Gra) (f b w : Str) (r : Int) : Int :=
  if graErr l = 0 then
    if isName f && (isName b && isName w) then
      if withinB r 0 3 then
        if decide (rightG l f b ≠ 3) && !(decide (b = w) && decide (r = 0)) then 9
        else if decide (r = 0) && decide (rightG l f w = 0) then 5 else 0
      else 3
    else 1
  else graErr l
theorem graErr_rise {l : List Gra} (h : graErr l = 0) : rising graLt l = true := by
  unfold graErr at h
  split at h
  · omega
  · split at h
    · split at h
      · assumption
      · omega
    · exact absurd h (by assumption)
section
variable {l : List Gra} {f b w : Str} {r : Int}
theorem ge_form (h0 : graErr l = 0) (h : isName f = false ∨ isName b = false ∨ isName w = false) : giveErr1 l f b w r = 1 := by
  unfold giveErr1; rcases h with h | h | h <;> simp [h0, h]
theorem ge_range (h0 : graErr l = 0) (h : isName f = true ∧ isName b = true ∧ isName w = true) (hr : ¬ (0 ≤ r ∧ r ≤ 3)) : giveErr1 l f b w r = 3 := by
  have : withinB r 0 3 = false := by simp [withinB]; omega
  unfold giveErr1; simp [h0, h.1, h.2.1, h.2.2, this]
theorem ge_den (h0 : graErr l = 0) (h : isName f = true ∧ isName b = true ∧ isName w = true) (hr : 0 ≤ r ∧ r ≤ 3) (ho : ¬ rightG l f b = 3) (hd : ¬ b = w ∨ ¬ r = 0) : giveErr1 l f b w r = 9 := by
  have : withinB r 0 3 = true := by simp [withinB]; omega
  unfold giveErr1; rcases hd with hd | hd <;> simp [h0, h.1, h.2.1, h.2.2, this, ho, hd]
theorem ge_none (h0 : graErr l = 0) (h : isName f = true ∧ isName b = true ∧ isName w = true) (ho : rightG l f b = 3 ∨ (b = w ∧ r = 0)) (hr : r = 0) (hw : rightG l f w = 0) : giveErr1 l f b w r = 5 := by
  subst hr
  have : withinB 0 0 3 = true := rfl
  unfold giveErr1
  rcases ho with ho | ho
  · simp [h0, h.1, h.2.1, h.2.2, this, ho, hw]
  · simp [h0, h.2.1, h.2.2, h.1, this, ho.1, hw]
theorem ge_ok (h0 : graErr l = 0) (h : isName f = true ∧ isName b = true ∧ isName w = true) (hr : 0 ≤ r ∧ r ≤ 3) (ho : rightG l f b = 3 ∨ (b = w ∧ r = 0)) (hw : ¬ r = 0 ∨ ¬ rightG l f w = 0) : giveErr1 l f b w r = 0 := by
  have hb : withinB r 0 3 = true := by simp [withinB]; omega
  unfold giveErr1
  rcases ho with ho | ho
  · rcases hw with hw | hw <;> simp [h0, h.1, h.2.1, h.2.2, hb, ho, hw]
  · obtain ⟨rfl, rfl⟩ := ho
    have hw : ¬ rightG l f b = 0 := hw.elim (fun h => absurd rfl h) id
    simp [h0, h.1, h.2.1, hb, hw]
theorem ge_inv (h : giveErr1 l f b w r = 0) : graErr l = 0 ∧ (isName f = true ∧ isName b = true ∧ isName w = true) ∧ (0 ≤ r ∧ r ≤ 3) ∧ (rightG l f b = 3 ∨ (b = w ∧ r = 0)) ∧ (¬ r = 0 ∨ ¬ rightG l f w = 0) := by
  by_cases h0 : graErr l = 0
  · by_cases hn : isName f = true ∧ isName b = true ∧ isName w = true
    · by_cases hr : 0 ≤ r ∧ r ≤ 3
      · by_cases ho : rightG l f b = 3 ∨ (b = w ∧ r = 0)
        · by_cases hw : ¬ r = 0 ∨ ¬ rightG l f w = 0
          · exact ⟨h0, hn, hr, ho, hw⟩
          · have := ge_none h0 hn ho (by omega) (by omega)
            omega
        · have := ge_den (w := w) h0 hn hr (fun e => ho (.inl e)) (by
            by_cases e : b = w
            · exact .inr fun e' => ho (.inr ⟨e, e'⟩)
            · exact .inl e)
          omega
      · have := ge_range h0 hn hr; omega
    · have := ge_form (r := r) h0 (f := f) (b := b) (w := w) (by
        cases h1 : isName f <;> cases h2 : isName b <;> cases h3 : isName w <;> simp_all)
      omega
  · unfold giveErr1 at h
    rw [if_neg h0] at h
    exact absurd h h0
end
theorem a_give_bad (l : List Gra) (hl : GBig l) (f b w : Str) (r : Int) (hf : f.length ≤ 140737488355328) (hb : b.length ≤ 140737488355328) (hw : w.length ≤ 140737488355328) (he : giveErr1 l f b w r ≠ 0) :
    AFn C.P 61 [graAV l, .v (str f), .v (str b), .v (str w), .v (.int .i64 r)] (.tup [graAV [], .v (.int .i64 (giveErr1 l f b w r))]) := by
  have hch := a_gcheck l hl
  by_cases h0 : graErr l = 0
  · rw [h0] at hch
    have hlen := graErr_len h0
    have hri := graErr_rise h0
    have hnm := a_names [f, b, w] (by simp) (by simp; exact ⟨hf, hb, hw⟩)
    simp only [List.map, List.all_cons, List.all_nil, Bool.and_true] at hnm
    have ho1 := a_of l f b (by omega) hri
    have ho2 := a_of l f w (by omega) hri
    have hof := @ge_form l f b w r h0
    have hor := @ge_range l f b w r h0
    have hod := @ge_den l f b w r h0
    have hon := @ge_none l f b w r h0
    have hok := @ge_ok l f b w r h0
    refine acall_intro Tryz.func61 rfl _ Tryz.ntmps61 (Nat.le_of_ble_eq_true rfl) _ Tryz.results61 0 rfl rfl ?_
    (repeat apply awp_seq); apply awp_region; (repeat' (first | apply ops_free | refine o_mv ?_ | refine o_as ?_ | refine o_ld ?_ | refine o_bi ?_ | refine o_pk ?_ | refine o_ln ?_ | refine o_no ?_ | refine o_fn ?_ | refine o_bx ?_ | (first | fail) | refine r_nil ?_ | refine g_on_t ?_ | refine g_on_f ?_ | refine g_off_t ?_ | refine g_off_f ?_ | refine g_unw ?_ | refine g_yes ?_ | refine g_no_t ?_ | refine g_no_f ?_ | ((first | refine g_sp_t ?_ ?_ | refine g_sp_f ?_ ?_); all_goals (intro hc; have hp := hc; first | (simp at hp; done) | ((try simp at hp); first | (exfalso; omega) | skip))))); show Awp _ _ _ _ _
    (refine Awp.red (red_freeze 0 rfl ?_) ?_; (intro row hrow; obtain rfl := List.mem_singleton.1 hrow; rfl); refine Awp.red (red_fp 6 0 rfl rfl (Nat.le_of_ble_eq_true rfl)) ?_)
    repeat' (first | refine walk ?_ | (first | (apply to_call Tryz.func39 rfl rfl; intro hIsFn; refine o_callf hIsFn (hch ..) ?_; skip) | (apply to_call Tryz.func62 rfl rfl; intro hIsFn; refine o_callp hIsFn (hnm ..) ?_) | (refine o_fzl ?_) | (apply to_call Tryz.func63 rfl rfl; intro hIsFn; refine o_callf hIsFn (ho1 ..) ?_; skip) | (apply to_call Tryz.func63 rfl rfl; intro hIsFn; refine o_callf hIsFn (ho2 ..) ?_; skip)) | ((first | (apply ops_split_t; rfl; rfl; exact nle rfl) | (apply ops_split_f; rfl; rfl; exact nle rfl) | (apply awp_cond; rfl)); all_goals (intro hc; have hp := hc; first | (simp at hp; done) | ((try simp at hp); first | (exfalso; omega) | skip))) | (apply awp_cond_any; rfl))
    all_goals try (exfalso; simp_all; done)
    all_goals first
      | (have h1 : giveErr1 l f b w r = 1 := hof (by assumption)
         rw [h1]
         (refine f_pure (rs := [.tmp 10, .tmp 11]) ?_; (repeat' (first | exact rzl_nil | apply rzl_cons | exact rz_pure rfl | exact rz_ex | exact z_os | apply rz_agg | apply rz_tup | apply rz_clo | apply rz_int | apply rz_bool | apply rz_str | refine z_eq ?_ | apply rz_sl)); all_goals skip))
      | (have h1 : giveErr1 l f b w r = 3 := hor (by assumption) (by omega)
         rw [h1]
         (refine f_pure (rs := [.tmp 10, .tmp 11]) ?_; (repeat' (first | exact rzl_nil | apply rzl_cons | exact rz_pure rfl | exact rz_ex | exact z_os | apply rz_agg | apply rz_tup | apply rz_clo | apply rz_int | apply rz_bool | apply rz_str | refine z_eq ?_ | apply rz_sl)); all_goals skip))
      | (have h1 : giveErr1 l f b w r = 9 := hod (by assumption) (by omega) (by assumption) (by first | exact .inl (by assumption) | exact .inr (by assumption))
         rw [h1]
         (refine f_pure (rs := [.tmp 10, .tmp 11]) ?_; (repeat' (first | exact rzl_nil | apply rzl_cons | exact rz_pure rfl | exact rz_ex | exact z_os | apply rz_agg | apply rz_tup | apply rz_clo | apply rz_int | apply rz_bool | apply rz_str | refine z_eq ?_ | apply rz_sl)); all_goals skip))
      | (have h1 : giveErr1 l f b w r = 5 := hon (by assumption) (by first | exact .inl (by assumption) | exact .inr ⟨by assumption, by assumption⟩) (by assumption) (by assumption)
         rw [h1]
         (refine f_pure (rs := [.tmp 10, .tmp 11]) ?_; (repeat' (first | exact rzl_nil | apply rzl_cons | exact rz_pure rfl | exact rz_ex | exact z_os | apply rz_agg | apply rz_tup | apply rz_clo | apply rz_int | apply rz_bool | apply rz_str | refine z_eq ?_ | apply rz_sl)); all_goals skip))
      | (have h1 : giveErr1 l f b w r = 0 := hok (by assumption) (by omega) (by first | exact .inl (by assumption) | exact .inr ⟨by assumption, by assumption⟩) (by first | exact .inl (by assumption) | exact .inr (by assumption))
         exact absurd h1 he)
  · refine acall_intro Tryz.func61 rfl _ Tryz.ntmps61 (Nat.le_of_ble_eq_true rfl) _ Tryz.results61 0 rfl rfl ?_
    (repeat apply awp_seq); apply awp_region; (repeat' (first | apply ops_free | refine o_mv ?_ | refine o_as ?_ | refine o_ld ?_ | refine o_bi ?_ | refine o_pk ?_ | refine o_ln ?_ | refine o_no ?_ | refine o_fn ?_ | refine o_bx ?_ | (first | fail) | refine r_nil ?_ | refine g_on_t ?_ | refine g_on_f ?_ | refine g_off_t ?_ | refine g_off_f ?_ | refine g_unw ?_ | refine g_yes ?_ | refine g_no_t ?_ | refine g_no_f ?_ | ((first | refine g_sp_t ?_ ?_ | refine g_sp_f ?_ ?_); all_goals (intro hc; have hp := hc; first | (simp at hp; done) | ((try simp at hp); first | (exfalso; omega) | skip))))); show Awp _ _ _ _ _
    repeat' (first | refine walk ?_ | (first | (apply to_call Tryz.func39 rfl rfl; intro hIsFn; refine o_callf hIsFn (hch ..) ?_; skip)) | ((first | (apply ops_split_t; rfl; rfl; exact nle rfl) | (apply ops_split_f; rfl; rfl; exact nle rfl) | (apply awp_cond; rfl)); all_goals (intro hc; have hp := hc; first | (simp at hp; done) | ((try simp at hp); first | (exfalso; omega) | skip))) | (apply awp_cond_any; rfl))
    all_goals try (exfalso; simp_all; done)
    rw [show giveErr1 l f b w r = graErr l from by simp [giveErr1, h0]]
    (refine f_pure (rs := [.tmp 10, .tmp 11]) ?_; (repeat' (first | exact rzl_nil | apply rzl_cons | exact rz_pure rfl | exact rz_ex | exact z_os | apply rz_agg | apply rz_tup | apply rz_clo | apply rz_int | apply rz_bool | apply rz_str | refine z_eq ?_ | apply rz_sl)); all_goals skip)
end Go.Proofs.YtiljlcgmcmjcoaaGreatDoor
