import Derived.Test.YtkkfilkmkdnboaaDoorMz13
/- Paths in the abstract layer, 7: Aside. -/
set_option linter.unusedSimpArgs false
set_option linter.unnecessarySimpa false
set_option maxHeartbeats 1000000
namespace Go.Proofs.YtkkfilkmkdnboaaDoor
open Go.Ab Go.RowKit
set_option maxRecDepth 10000
attribute [local irreducible] Awp Ops OpsX Wanted Red ExOk Go.Ab.Fin ACall Rz RzL RzRows Enters ResOk RenV RenVL ArgV ArgVL

def asideErr (p : Str) (n : Int) : Int := if pathErr p = 0 then (if n < 1 ∨ 99 < n then 3 else asideE p n) else pathErr p
theorem dec2_len (n : Int) : (dec2 n).length ≤ 2 := by unfold dec2; split <;> simp
theorem markOf_len (n : Int) : (markOf n).length ≤ 5 := by have := dec2_len n; simp [markOf]; omega
theorem trimR_len (s : Str) : (trimR s).length ≤ s.length := by
  unfold trimR
  rw [List.length_reverse]
  exact Nat.le_trans (List.dropWhile_sublist _).length_le (by simp)
theorem endOf_len (s : Str) : (endOf s).length ≤ s.length := by unfold endOf; split <;> simp
theorem stemOf_len (s : Str) : (stemOf s).length ≤ s.length := by unfold stemOf; split <;> simp <;> omega
theorem cutOf_len (s : Str) (n : Int) : (cutOf s n).length ≤ s.length := by
  have := stemOf_len s
  unfold cutOf
  split
  · refine Nat.le_trans (trimR_len _) ?_
    rw [List.length_take]; omega
  · exact this
theorem a_aside (p : Str) (n : Int) (hp : p.length ≤ 140737488355328) : AFn C.P 124 [.v (str p), .v (.int .i64 n)] (.tup [.v (str (okOr (asideErr p n) (asideQ p n))), .v (.int .i64 (asideErr p n))]) := by
  have hch := a_check1 p hp
  by_cases h0 : pathErr p = 0
  · rw [h0] at hch
    by_cases hn : n < 1 ∨ 99 < n
    · rw [show asideErr p n = 3 from by simp [asideErr, h0, hn]]
      refine acall_intro Tryd.func124 rfl _ Tryd.ntmps124 (Nat.le_of_ble_eq_true rfl) _ Tryd.results124 0 rfl rfl ?_
      repeat' (first | refine walk ?_ | (first | (refine o_fzl ?_) | (apply to_call Tryd.func84 rfl rfl; intro hIsFn; refine o_callp hIsFn (hch ..) ?_)) | ((first | (apply ops_split_t; rfl; rfl; exact nle rfl) | (apply ops_split_f; rfl; rfl; exact nle rfl) | (apply awp_cond; rfl)); all_goals (intro hc; have hp := hc; first | (simp at hp; done) | ((try simp at hp); first | (exfalso; omega) | skip))) | (apply awp_cond_any; rfl))
      all_goals try (exfalso; omega)
      all_goals ((refine f_pure (rs := [.tmp 4, .tmp 5]) ?_; (repeat' (first | exact rzl_nil | apply rzl_cons | exact rz_pure rfl | exact rz_ex | exact z_os | apply rz_agg | apply rz_tup | apply rz_clo | apply rz_int | apply rz_bool | apply rz_str | refine z_eq ?_ | apply rz_sl)); all_goals (simp_all [okOr])))
    · have hpe : asideErr p n = asideE p n := by simp [asideErr, h0, hn]
      rw [hpe]
      obtain ⟨k, rfl⟩ : ∃ k : Nat, n = k := ⟨n.toNat, by omega⟩
      have hit := a_itoa2 k (by omega)
      have hsp := a_split p (by omega)
      have hnl : (lastOf p).length ≤ p.length := by simp [lastOf]
      have hpl : (parentOf p).length ≤ p.length := by simp [parentOf]; omega
      have hd2 := dec2_len (k : Int)
      have hla := a_last (lastOf p) 46 (by omega)
      have hbd := lastIdx_bd 46 (lastOf p)
      have hml := markOf_len (k : Int)
      have hmk : [32, 40] ++ dec2 (k : Int) ++ [41] = markOf (k : Int) := rfl
      have hel := endOf_len (lastOf p)
      have hsl := stemOf_len (lastOf p)
      have hcl := cutOf_len (lastOf p) (k : Int)
      have hrm : roomOf (lastOf p) (k : Int) = 20 - ((markOf (k : Int)).length : Int) - ((endOf (lastOf p)).length : Int) := rfl
      have htr := a_trim ((stemOf (lastOf p)).take (roomOf (lastOf p) (k : Int)).toNat) (by rw [List.length_take]; omega)
      have hjo := a_joined (parentOf p) (cutOf (lastOf p) (k : Int) ++ markOf (k : Int) ++ endOf (lastOf p)) (by omega) (by rw [List.length_append, List.length_append]; omega)
      have hgr := a_great (asideQ p (k : Int))
      have hj2 : joinOf (parentOf p) (cutOf (lastOf p) (k : Int) ++ markOf (k : Int) ++ endOf (lastOf p)) = asideQ p (k : Int) := rfl
      rw [hj2] at hjo
      have hae : asideE p (k : Int) = if cutOf (lastOf p) (k : Int) = [] then 2 else if tooGreat (asideQ p (k : Int)) then 2 else 0 := rfl
      have hcut : cutOf (lastOf p) (k : Int) = if roomOf (lastOf p) (k : Int) < ((stemOf (lastOf p)).length : Int) then trimR ((stemOf (lastOf p)).take (roomOf (lastOf p) (k : Int)).toNat) else stemOf (lastOf p) := rfl
      have hse : (0 < lastIdx 46 (lastOf p) → stemOf (lastOf p) = (lastOf p).take (lastIdx 46 (lastOf p)).toNat ∧ endOf (lastOf p) = ((lastOf p).take (lastOf p).length).drop (lastIdx 46 (lastOf p)).toNat) ∧ (¬ 0 < lastIdx 46 (lastOf p) → stemOf (lastOf p) = lastOf p ∧ endOf (lastOf p) = []) := by
        constructor
        · intro h; rw [List.take_length]; simp [stemOf, endOf, h]
        · intro h; simp [stemOf, endOf, h]
      generalize asideQ p (k : Int) = Q at hjo hgr hae hj2 ⊢
      generalize asideE p (k : Int) = E at hae ⊢
      generalize cutOf (lastOf p) (k : Int) = Cut at hcut hae hjo hcl hj2
      generalize roomOf (lastOf p) (k : Int) = Rm at hcut htr hrm
      generalize stemOf (lastOf p) = St at hcut htr hse hsl
      generalize endOf (lastOf p) = En at hse hjo hel hj2 hrm
      generalize markOf (k : Int) = Mk at hmk hjo hml hj2 hrm
      generalize lastIdx 46 (lastOf p) = ix at hla hbd hse
      generalize lastOf p = nm at *
      generalize parentOf p = pa at *
      have hTl : (trimR (St.take Rm.toNat)).length ≤ p.length := by
        have := trimR_len (St.take Rm.toNat)
        rw [List.length_take] at this; omega
      generalize trimR (St.take Rm.toNat) = T at htr hcut hTl
      by_cases hix : 0 < ix
      · obtain ⟨hS, hE⟩ := hse.1 hix
        clear hse
        subst hS
        subst hE
        subst hmk
        subst hrm
        cases hrr : decide (20 - ((([32, 40] ++ dec2 (k : Int) ++ [41] : Str)).length : Int) - (((nm.take nm.length).drop ix.toNat).length : Int) < ((nm.take ix.toNat).length : Int))
        · rw [if_neg (of_decide_eq_false hrr)] at hcut
          subst hcut
          refine acall_intro Tryd.func124 rfl _ Tryd.ntmps124 (Nat.le_of_ble_eq_true rfl) _ Tryd.results124 0 rfl rfl ?_
          repeat' (first | refine walk ?_ | (first | (refine o_fzl ?_) | (apply to_call Tryd.func84 rfl rfl; intro hIsFn; refine o_callp hIsFn (hch ..) ?_) | (apply to_call Tryd.func61 rfl rfl; intro hIsFn; refine o_callp hIsFn (hsp ..) ?_) | (apply to_call Tryd.func88 rfl rfl; intro hIsFn; refine o_callf hIsFn (hla ..) ?_; skip) | (apply opsx_val; apply ex_slice_str (a := 0) (b := ix.toNat); (case hx => rfl); (case hT => rfl); (case he => rfl); (case ha => rfl); (case hb => exact ⟨_, av_int (by omega)⟩); (case hab => (first | omega | (simp; done) | (simp only [List.length_cons, List.length_nil, List.length_map]; omega) | (simp; omega))); (case hbl => (first | omega | (simp; done) | (simp only [List.length_cons, List.length_nil, List.length_map]; omega) | (simp; omega))); (case hN => exact nle rfl)) | (apply opsx_val; apply ex_slice_str (a := ix.toNat) (b := nm.length); (case hx => rfl); (case hT => rfl); (case he => rfl); (case ha => exact ⟨_, av_int (by omega)⟩); (case hb => rfl); (case hab => (first | omega | (simp; done) | (simp only [List.length_cons, List.length_nil, List.length_map]; omega) | (simp; omega))); (case hbl => (first | omega | (simp; done) | (simp only [List.length_cons, List.length_nil, List.length_map]; omega) | (simp; omega))); (case hN => exact nle rfl)) | (apply to_call Tryd.func142 rfl rfl; intro hIsFn; refine o_callf hIsFn (hit ..) ?_; skip) | (apply opsx_val; apply ex_max0; (case hx => rfl); (case hy => rfl); (case hN => exact nle rfl)) | (apply opsx_val; apply ex_slice_str (a := 0) (b := Int.toNat _); (case hx => rfl); (case hT => rfl); (case he => rfl); (case ha => rfl); (case hb => exact ⟨_, rfl⟩); (case hab => (first | omega | (simp; done) | (simp only [List.length_cons, List.length_nil, List.length_map]; omega) | (simp; omega))); (case hbl => (show _ ≤ (nm.take ix.toNat).length; omega)); (case hN => exact nle rfl)) | (apply to_call Tryd.func143 rfl rfl; intro hIsFn; refine o_callf hIsFn (htr ..) ?_; skip) | (apply to_call Tryd.func144 rfl rfl; intro hIsFn; refine o_callf hIsFn (hjo ..) ?_; skip) | (apply to_call Tryd.func110 rfl rfl; intro hIsFn; refine o_callf hIsFn (hgr ..) ?_; skip) | (apply opsx_val; apply ex_sadd; rfl; rfl; (simp only [List.length_append, List.length_cons, List.length_nil]; omega); exact nle rfl)) | ((first | (apply ops_split_t; rfl; rfl; exact nle rfl) | (apply ops_split_f; rfl; rfl; exact nle rfl) | (apply awp_cond; rfl)); all_goals (intro hc; have hp := hc; first | (simp at hp; done) | ((try simp at hp); first | (exfalso; omega) | skip))) | (apply awp_cond_any; rfl))
          all_goals try (exfalso; omega)
          all_goals ((refine f_pure (rs := [.tmp 4, .tmp 5]) ?_; (repeat' (first | exact rzl_nil | apply rzl_cons | exact rz_pure rfl | exact rz_ex | exact z_os | apply rz_agg | apply rz_tup | apply rz_clo | apply rz_int | apply rz_bool | apply rz_str | refine z_eq ?_ | apply rz_sl)); all_goals (simp_all [okOr])))
        · have hr2 := of_decide_eq_true hrr
          rw [if_pos hr2] at hcut
          subst hcut
          refine acall_intro Tryd.func124 rfl _ Tryd.ntmps124 (Nat.le_of_ble_eq_true rfl) _ Tryd.results124 0 rfl rfl ?_
          repeat' (first | refine walk ?_ | (first | (refine o_fzl ?_) | (apply to_call Tryd.func84 rfl rfl; intro hIsFn; refine o_callp hIsFn (hch ..) ?_) | (apply to_call Tryd.func61 rfl rfl; intro hIsFn; refine o_callp hIsFn (hsp ..) ?_) | (apply to_call Tryd.func88 rfl rfl; intro hIsFn; refine o_callf hIsFn (hla ..) ?_; skip) | (apply opsx_val; apply ex_slice_str (a := 0) (b := ix.toNat); (case hx => rfl); (case hT => rfl); (case he => rfl); (case ha => rfl); (case hb => exact ⟨_, av_int (by omega)⟩); (case hab => (first | omega | (simp; done) | (simp only [List.length_cons, List.length_nil, List.length_map]; omega) | (simp; omega))); (case hbl => (first | omega | (simp; done) | (simp only [List.length_cons, List.length_nil, List.length_map]; omega) | (simp; omega))); (case hN => exact nle rfl)) | (apply opsx_val; apply ex_slice_str (a := ix.toNat) (b := nm.length); (case hx => rfl); (case hT => rfl); (case he => rfl); (case ha => exact ⟨_, av_int (by omega)⟩); (case hb => rfl); (case hab => (first | omega | (simp; done) | (simp only [List.length_cons, List.length_nil, List.length_map]; omega) | (simp; omega))); (case hbl => (first | omega | (simp; done) | (simp only [List.length_cons, List.length_nil, List.length_map]; omega) | (simp; omega))); (case hN => exact nle rfl)) | (apply to_call Tryd.func142 rfl rfl; intro hIsFn; refine o_callf hIsFn (hit ..) ?_; skip) | (apply opsx_val; apply ex_max0; (case hx => rfl); (case hy => rfl); (case hN => exact nle rfl)) | (apply opsx_val; apply ex_slice_str (a := 0) (b := Int.toNat _); (case hx => rfl); (case hT => rfl); (case he => rfl); (case ha => rfl); (case hb => exact ⟨_, rfl⟩); (case hab => (first | omega | (simp; done) | (simp only [List.length_cons, List.length_nil, List.length_map]; omega) | (simp; omega))); (case hbl => (show _ ≤ (nm.take ix.toNat).length; omega)); (case hN => exact nle rfl)) | (apply to_call Tryd.func143 rfl rfl; intro hIsFn; refine o_callf hIsFn (htr ..) ?_; skip) | (apply to_call Tryd.func144 rfl rfl; intro hIsFn; refine o_callf hIsFn (hjo ..) ?_; skip) | (apply to_call Tryd.func110 rfl rfl; intro hIsFn; refine o_callf hIsFn (hgr ..) ?_; skip) | (apply opsx_val; apply ex_sadd; rfl; rfl; (simp only [List.length_append, List.length_cons, List.length_nil]; omega); exact nle rfl)) | ((first | (apply ops_split_t; rfl; rfl; exact nle rfl) | (apply ops_split_f; rfl; rfl; exact nle rfl) | (apply awp_cond; rfl)); all_goals (intro hc; have hp := hc; first | (simp at hp; done) | ((try simp at hp); first | (exfalso; omega) | skip))) | (apply awp_cond_any; rfl))
          all_goals try (exfalso; omega)
          all_goals ((refine f_pure (rs := [.tmp 4, .tmp 5]) ?_; (repeat' (first | exact rzl_nil | apply rzl_cons | exact rz_pure rfl | exact rz_ex | exact z_os | apply rz_agg | apply rz_tup | apply rz_clo | apply rz_int | apply rz_bool | apply rz_str | refine z_eq ?_ | apply rz_sl)); all_goals (simp_all [okOr])))
      · obtain ⟨hS, hE⟩ := hse.2 hix
        clear hse
        have hS' := hS.symm
        subst hS'
        subst hE
        subst hmk
        subst hrm
        cases hrr : decide (20 - ((([32, 40] ++ dec2 (k : Int) ++ [41] : Str)).length : Int) - (([] : Str).length : Int) < ((nm).length : Int))
        · rw [if_neg (of_decide_eq_false hrr)] at hcut
          subst hcut
          refine acall_intro Tryd.func124 rfl _ Tryd.ntmps124 (Nat.le_of_ble_eq_true rfl) _ Tryd.results124 0 rfl rfl ?_
          repeat' (first | refine walk ?_ | (first | (refine o_fzl ?_) | (apply to_call Tryd.func84 rfl rfl; intro hIsFn; refine o_callp hIsFn (hch ..) ?_) | (apply to_call Tryd.func61 rfl rfl; intro hIsFn; refine o_callp hIsFn (hsp ..) ?_) | (apply to_call Tryd.func88 rfl rfl; intro hIsFn; refine o_callf hIsFn (hla ..) ?_; skip) | (apply opsx_val; apply ex_slice_str (a := 0) (b := ix.toNat); (case hx => rfl); (case hT => rfl); (case he => rfl); (case ha => rfl); (case hb => exact ⟨_, av_int (by omega)⟩); (case hab => (first | omega | (simp; done) | (simp only [List.length_cons, List.length_nil, List.length_map]; omega) | (simp; omega))); (case hbl => (first | omega | (simp; done) | (simp only [List.length_cons, List.length_nil, List.length_map]; omega) | (simp; omega))); (case hN => exact nle rfl)) | (apply opsx_val; apply ex_slice_str (a := ix.toNat) (b := nm.length); (case hx => rfl); (case hT => rfl); (case he => rfl); (case ha => exact ⟨_, av_int (by omega)⟩); (case hb => rfl); (case hab => (first | omega | (simp; done) | (simp only [List.length_cons, List.length_nil, List.length_map]; omega) | (simp; omega))); (case hbl => (first | omega | (simp; done) | (simp only [List.length_cons, List.length_nil, List.length_map]; omega) | (simp; omega))); (case hN => exact nle rfl)) | (apply to_call Tryd.func142 rfl rfl; intro hIsFn; refine o_callf hIsFn (hit ..) ?_; skip) | (apply opsx_val; apply ex_max0; (case hx => rfl); (case hy => rfl); (case hN => exact nle rfl)) | (apply opsx_val; apply ex_slice_str (a := 0) (b := Int.toNat _); (case hx => rfl); (case hT => rfl); (case he => rfl); (case ha => rfl); (case hb => exact ⟨_, rfl⟩); (case hab => (first | omega | (simp; done) | (simp only [List.length_cons, List.length_nil, List.length_map]; omega) | (simp; omega))); (case hbl => omega); (case hN => exact nle rfl)) | (apply to_call Tryd.func143 rfl rfl; intro hIsFn; refine o_callf hIsFn (htr ..) ?_; skip) | (apply to_call Tryd.func144 rfl rfl; intro hIsFn; refine o_callf hIsFn (hjo ..) ?_; skip) | (apply to_call Tryd.func110 rfl rfl; intro hIsFn; refine o_callf hIsFn (hgr ..) ?_; skip) | (apply opsx_val; apply ex_sadd; rfl; rfl; (simp only [List.length_append, List.length_cons, List.length_nil]; omega); exact nle rfl)) | ((first | (apply ops_split_t; rfl; rfl; exact nle rfl) | (apply ops_split_f; rfl; rfl; exact nle rfl) | (apply awp_cond; rfl)); all_goals (intro hc; have hp := hc; first | (simp at hp; done) | ((try simp at hp); first | (exfalso; omega) | skip))) | (apply awp_cond_any; rfl))
          all_goals try (exfalso; omega)
          all_goals ((refine f_pure (rs := [.tmp 4, .tmp 5]) ?_; (repeat' (first | exact rzl_nil | apply rzl_cons | exact rz_pure rfl | exact rz_ex | exact z_os | apply rz_agg | apply rz_tup | apply rz_clo | apply rz_int | apply rz_bool | apply rz_str | refine z_eq ?_ | apply rz_sl)); all_goals (simp_all [okOr])))
        · have hr2 := of_decide_eq_true hrr
          rw [if_pos hr2] at hcut
          subst hcut
          refine acall_intro Tryd.func124 rfl _ Tryd.ntmps124 (Nat.le_of_ble_eq_true rfl) _ Tryd.results124 0 rfl rfl ?_
          repeat' (first | refine walk ?_ | (first | (refine o_fzl ?_) | (apply to_call Tryd.func84 rfl rfl; intro hIsFn; refine o_callp hIsFn (hch ..) ?_) | (apply to_call Tryd.func61 rfl rfl; intro hIsFn; refine o_callp hIsFn (hsp ..) ?_) | (apply to_call Tryd.func88 rfl rfl; intro hIsFn; refine o_callf hIsFn (hla ..) ?_; skip) | (apply opsx_val; apply ex_slice_str (a := 0) (b := ix.toNat); (case hx => rfl); (case hT => rfl); (case he => rfl); (case ha => rfl); (case hb => exact ⟨_, av_int (by omega)⟩); (case hab => (first | omega | (simp; done) | (simp only [List.length_cons, List.length_nil, List.length_map]; omega) | (simp; omega))); (case hbl => (first | omega | (simp; done) | (simp only [List.length_cons, List.length_nil, List.length_map]; omega) | (simp; omega))); (case hN => exact nle rfl)) | (apply opsx_val; apply ex_slice_str (a := ix.toNat) (b := nm.length); (case hx => rfl); (case hT => rfl); (case he => rfl); (case ha => exact ⟨_, av_int (by omega)⟩); (case hb => rfl); (case hab => (first | omega | (simp; done) | (simp only [List.length_cons, List.length_nil, List.length_map]; omega) | (simp; omega))); (case hbl => (first | omega | (simp; done) | (simp only [List.length_cons, List.length_nil, List.length_map]; omega) | (simp; omega))); (case hN => exact nle rfl)) | (apply to_call Tryd.func142 rfl rfl; intro hIsFn; refine o_callf hIsFn (hit ..) ?_; skip) | (apply opsx_val; apply ex_max0; (case hx => rfl); (case hy => rfl); (case hN => exact nle rfl)) | (apply opsx_val; apply ex_slice_str (a := 0) (b := Int.toNat _); (case hx => rfl); (case hT => rfl); (case he => rfl); (case ha => rfl); (case hb => exact ⟨_, rfl⟩); (case hab => (first | omega | (simp; done) | (simp only [List.length_cons, List.length_nil, List.length_map]; omega) | (simp; omega))); (case hbl => omega); (case hN => exact nle rfl)) | (apply to_call Tryd.func143 rfl rfl; intro hIsFn; refine o_callf hIsFn (htr ..) ?_; skip) | (apply to_call Tryd.func144 rfl rfl; intro hIsFn; refine o_callf hIsFn (hjo ..) ?_; skip) | (apply to_call Tryd.func110 rfl rfl; intro hIsFn; refine o_callf hIsFn (hgr ..) ?_; skip) | (apply opsx_val; apply ex_sadd; rfl; rfl; (simp only [List.length_append, List.length_cons, List.length_nil]; omega); exact nle rfl)) | ((first | (apply ops_split_t; rfl; rfl; exact nle rfl) | (apply ops_split_f; rfl; rfl; exact nle rfl) | (apply awp_cond; rfl)); all_goals (intro hc; have hp := hc; first | (simp at hp; done) | ((try simp at hp); first | (exfalso; omega) | skip))) | (apply awp_cond_any; rfl))
          all_goals try (exfalso; omega)
          all_goals ((refine f_pure (rs := [.tmp 4, .tmp 5]) ?_; (repeat' (first | exact rzl_nil | apply rzl_cons | exact rz_pure rfl | exact rz_ex | exact z_os | apply rz_agg | apply rz_tup | apply rz_clo | apply rz_int | apply rz_bool | apply rz_str | refine z_eq ?_ | apply rz_sl)); all_goals (simp_all [okOr])))
  · rw [show asideErr p n = pathErr p from by simp [asideErr, h0]]
    refine acall_intro Tryd.func124 rfl _ Tryd.ntmps124 (Nat.le_of_ble_eq_true rfl) _ Tryd.results124 0 rfl rfl ?_
    repeat' (first | refine walk ?_ | (first | (refine o_fzl ?_) | (apply to_call Tryd.func84 rfl rfl; intro hIsFn; refine o_callp hIsFn (hch ..) ?_)) | ((first | (apply ops_split_t; rfl; rfl; exact nle rfl) | (apply ops_split_f; rfl; rfl; exact nle rfl) | (apply awp_cond; rfl)); all_goals (intro hc; have hp := hc; first | (simp at hp; done) | ((try simp at hp); first | (exfalso; omega) | skip))) | (apply awp_cond_any; rfl))
    all_goals try (exfalso; omega)
    all_goals ((refine f_pure (rs := [.tmp 4, .tmp 5]) ?_; (repeat' (first | exact rzl_nil | apply rzl_cons | exact rz_pure rfl | exact rz_ex | exact z_os | apply rz_agg | apply rz_tup | apply rz_clo | apply rz_int | apply rz_bool | apply rz_str | refine z_eq ?_ | apply rz_sl)); all_goals (simp_all [okOr])))
end Go.Proofs.YtkkfilkmkdnboaaDoor
