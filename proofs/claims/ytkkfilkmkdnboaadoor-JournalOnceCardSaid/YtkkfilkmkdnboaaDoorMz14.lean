import Derived.Test.YtkkfilkmkdnboaaDoorMz13
import Derived.Test.YtkkfilkmkdnboaaDoorMz12
/- Paths in the abstract layer, 7: Aside. -/
set_option linter.unusedSimpArgs false
set_option linter.unnecessarySimpa false
set_option maxHeartbeats 1000000
namespace Go.Proofs.YtkkfilkmkdnboaaDoor
open Go.Ab Go.RowKit
set_option maxRecDepth 10000
attribute [local irreducible] Awp Ops OpsX Wanted Red ExOk Go.Ab.Fin ACall Rz RzL RzRows Enters ResOk RenV RenVL ArgV ArgVL

def asideErr (p : Str) (n : Int) : Int := if pathErr p = 0 then (if n < 1 ∨ 99 < n then 3 else asideE p n) else pathErr p
theorem dec2_len (n : Int) : (dec2 n).length ≤ 2 := by unfold dec2; split <;> simp
theorem markOf_len (n : Int) : (markOf n).length ≤ 5 := by have := dec2_len n; simp [markOf]; omega
theorem trimR_len (s : Str) : (trimR s).length ≤ s.length := by
  unfold trimR
  rw [List.length_reverse]
  exact Nat.le_trans (List.dropWhile_sublist _).length_le (by simp)
theorem endOf_len (s : Str) : (endOf s).length ≤ s.length := by unfold endOf; split <;> simp
theorem stemOf_len (s : Str) : (stemOf s).length ≤ s.length := by unfold stemOf; split <;> simp <;> omega
theorem cutOf_len (s : Str) (n : Int) : (cutOf s n).length ≤ s.length := by
  have := stemOf_len s
  unfold cutOf
  split
  · refine Nat.le_trans (trimR_len _) ?_
    rw [List.length_take]; omega
  · exact this
theorem a_aside (p : Str) (n : Int) (hp : p.length ≤ 140737488355328) : AFn C.P 124 [.v (str p), .v (.int .i64 n)] (.tup [.v (str (okOr (asideErr p n) (asideQ p n))), .v (.int .i64 (asideErr p n))]) := by
  have hch := a_check1 p hp
  by_cases h0 : pathErr p = 0
  · rw [h0] at hch
    by_cases hn : n < 1 ∨ 99 < n
    · rw [show asideErr p n = 3 from by simp [asideErr, h0, hn]]
      refine acall_intro Tryd.func124 rfl _ Tryd.ntmps124 (Nat.le_of_ble_eq_true rfl) _ Tryd.results124 0 rfl rfl ?_
      repeat' (first | refine walk ?_ | (first | (refine o_fzl ?_) | (apply to_call Tryd.func84 rfl rfl; intro hIsFn; refine o_callp hIsFn (hch ..) ?_)) | ((first | (apply ops_split_t; rfl; rfl; exact nle rfl) | (apply ops_split_f; rfl; rfl; exact nle rfl) | (apply awp_cond; rfl)); all_goals (intro hc; have hp := hc; first | (simp at hp; done) | ((try simp at hp); first | (exfalso; omega) | skip))) | (apply awp_cond_any; rfl))
      all_goals try (exfalso; omega)
      all_goals ((refine f_pure (rs := [.tmp 4, .tmp 5]) ?_; (repeat' (first | exact rzl_nil | apply rzl_cons | exact rz_pure rfl | exact rz_ex | exact z_os | apply rz_agg | apply rz_tup | apply rz_clo | apply rz_int | apply rz_bool | apply rz_str | refine z_eq ?_ | apply rz_sl)); all_goals (simp_all [okOr])))
    · have hpe : asideErr p n = asideE p n := by simp [asideErr, h0, hn]
      rw [hpe]
      obtain ⟨k, rfl⟩ : ∃ k : Nat, n = k := ⟨n.toNat, by omega⟩
      have hit := a_itoa2 k (by omega)
      have hsp := a_split p (by omega)
      have hnl : (lastOf p).length ≤ p.length := by simp [lastOf]
      have hpl : (parentOf p).length ≤ p.length := by simp [parentOf]; omega
      have hd2 := dec2_len (k : Int)
      have hla := a_last (lastOf p) 46 (by omega)
      have hbd := lastIdx_bd 46 (lastOf p)
      have hml := markOf_len (k : Int)
      have hmk : [32, 40] ++ dec2 (k : Int) ++ [41] = markOf (k : Int) := rfl
      have hel := endOf_len (lastOf p)
      have hsl := stemOf_len (lastOf p)
      have hcl := cutOf_len (lastOf p) (k : Int)
      have hrm : roomOf (lastOf p) (k : Int) = 20 - ((markOf (k : Int)).length : Int) - ((endOf (lastOf p)).length : Int) := rfl
      have htr := a_trim ((stemOf (lastOf p)).take (roomOf (lastOf p) (k : Int)).toNat) (by rw [List.length_take]; omega)
      have hjo := a_joined (parentOf p) (cutOf (lastOf p) (k : Int) ++ markOf (k : Int) ++ endOf (lastOf p)) (by omega) (by rw [List.length_append, List.length_append]; omega)
      have hgr := a_great (asideQ p (k : Int))
      have hj2 : joinOf (parentOf p) (cutOf (lastOf p) (k : Int) ++ markOf (k : Int) ++ endOf (lastOf p)) = asideQ p (k : Int) := rfl
      rw [hj2] at hjo
      have hae : asideE p (k : Int) = if cutOf (lastOf p) (k : Int) = [] then 2 else if tooGreat (asideQ p (k : Int)) then 2 else 0 := rfl
      have hcut : cutOf (lastOf p) (k : Int) = if roomOf (lastOf p) (k : Int) < ((stemOf (lastOf p)).length : Int) then trimR ((stemOf (lastOf p)).take (roomOf (lastOf p) (k : Int)).toNat) else stemOf (lastOf p) := rfl
      have hse : (0 < lastIdx 46 (lastOf p) → stemOf (lastOf p) = (lastOf p).take (lastIdx 46 (lastOf p)).toNat ∧ endOf (lastOf p) = ((lastOf p).take (lastOf p).length).drop (lastIdx 46 (lastOf p)).toNat) ∧ (¬ 0 < lastIdx 46 (lastOf p) → stemOf (lastOf p) = lastOf p ∧ endOf (lastOf p) = []) := by
        constructor
        · intro h; rw [List.take_length]; simp [stemOf, endOf, h]
        · intro h; simp [stemOf, endOf, h]
      generalize asideQ p (k : Int) = Q at hjo hgr hae hj2 ⊢
      generalize asideE p (k : Int) = E at hae ⊢
      generalize cutOf (lastOf p) (k : Int) = Cut at hcut hae hjo hcl hj2
      generalize roomOf (lastOf p) (k : Int) = Rm at hcut htr hrm
      generalize stemOf (lastOf p) = St at hcut htr hse hsl
      generalize endOf (lastOf p) = En at hse hjo hel hj2 hrm
      generalize markOf (k : Int) = Mk at hmk hjo hml hj2 hrm
      generalize lastIdx 46 (lastOf p) = ix at hla hbd hse
      generalize lastOf p = nm at *
      generalize parentOf p = pa at *
      have hTl : (trimR (St.take Rm.toNat)).length ≤ p.length := by
        have := trimR_len (St.take Rm.toNat)
        rw [List.length_take] at this; omega
      generalize trimR (St.take Rm.toNat) = T at htr hcut hTl
      by_cases hix : 0 < ix
      · obtain ⟨hS, hE⟩ := hse.1 hix
        clear hse
        subst hS
        subst hE
        subst hmk
        subst hrm
        cases hrr : decide (20 - ((([32, 40] ++ dec2 (k : Int) ++ [41] : Str)).length : Int) - (((nm.take nm.length).drop ix.toNat).length : Int) < ((nm.take ix.toNat).length : Int))
        · rw [if_neg (of_decide_eq_false hrr)] at hcut
          subst hcut
          refine acall_intro Tryd.func124 rfl _ Tryd.ntmps124 (Nat.le_of_ble_eq_true rfl) _ Tryd.results124 0 rfl rfl ?_
          repeat' (first | refine walk ?_ | (first | (refine o_fzl ?_) | (apply to_call Tryd.func84 rfl rfl; intro hIsFn; refine o_callp hIsFn (hch ..) ?_) | (apply to_call Tryd.func61 rfl rfl; intro hIsFn; refine o_callp hIsFn (hsp ..) ?_) | (apply to_call Tryd.func88 rfl rfl; intro hIsFn; refine o_callf hIsFn (hla ..) ?_; skip) | (apply opsx_val; apply ex_slice_str (a := 0) (b := ix.toNat); (case hx => rfl); (case hT => rfl); (case he => rfl); (case ha => rfl); (case hb => exact ⟨_, av_int (by omega)⟩); (case hab => (first | omega | (simp; done) | (simp only [List.length_cons, List.length_nil, List.length_map]; omega) | (simp; omega))); (case hbl => (first | omega | (simp; done) | (simp only [List.length_cons, List.length_nil, List.length_map]; omega) | (simp; omega))); (case hN => exact nle rfl)) | (apply opsx_val; apply ex_slice_str (a := ix.toNat) (b := nm.length); (case hx => rfl); (case hT => rfl); (case he => rfl); (case ha => exact ⟨_, av_int (by omega)⟩); (case hb => rfl); (case hab => (first | omega | (simp; done) | (simp only [List.length_cons, List.length_nil, List.length_map]; omega) | (simp; omega))); (case hbl => (first | omega | (simp; done) | (simp only [List.length_cons, List.length_nil, List.length_map]; omega) | (simp; omega))); (case hN => exact nle rfl)) | (apply to_call Tryd.func142 rfl rfl; intro hIsFn; refine o_callf hIsFn (hit ..) ?_; skip) | (apply opsx_val; apply ex_max0; (case hx => rfl); (case hy => rfl); (case hN => exact nle rfl)) | (apply opsx_val; apply ex_slice_str (a := 0) (b := Int.toNat _); (case hx => rfl); (case hT => rfl); (case he => rfl); (case ha => rfl); (case hb => exact ⟨_, rfl⟩); (case hab => (first | omega | (simp; done) | (simp only [List.length_cons, List.length_nil, List.length_map]; omega) | (simp; omega))); (case hbl => (show _ ≤ (nm.take ix.toNat).length; omega)); (case hN => exact nle rfl)) | (apply to_call Tryd.func143 rfl rfl; intro hIsFn; refine o_callf hIsFn (htr ..) ?_; skip) | (apply to_call Tryd.func144 rfl rfl; intro hIsFn; refine o_callf hIsFn (hjo ..) ?_; skip) | (apply to_call Tryd.func110 rfl rfl; intro hIsFn; refine o_callf hIsFn (hgr ..) ?_; skip) | (apply opsx_val; apply ex_sadd; rfl; rfl; (simp only [List.length_append, List.length_cons, List.length_nil]; omega); exact nle rfl)) | ((first | (apply ops_split_t; rfl; rfl; exact nle rfl) | (apply ops_split_f; rfl; rfl; exact nle rfl) | (apply awp_cond; rfl)); all_goals (intro hc; have hp := hc; first | (simp at hp; done) | ((try simp at hp); first | (exfalso; omega) | skip))) | (apply awp_cond_any; rfl))
          all_goals try (exfalso; omega)
          all_goals ((refine f_pure (rs := [.tmp 4, .tmp 5]) ?_; (repeat' (first | exact rzl_nil | apply rzl_cons | exact rz_pure rfl | exact rz_ex | exact z_os | apply rz_agg | apply rz_tup | apply rz_clo | apply rz_int | apply rz_bool | apply rz_str | refine z_eq ?_ | apply rz_sl)); all_goals (simp_all [okOr])))
        · have hr2 := of_decide_eq_true hrr
          rw [if_pos hr2] at hcut
          subst hcut
          refine acall_intro Tryd.func124 rfl _ Tryd.ntmps124 (Nat.le_of_ble_eq_true rfl) _ Tryd.results124 0 rfl rfl ?_
          repeat' (first | refine walk ?_ | (first | (refine o_fzl ?_) | (apply to_call Tryd.func84 rfl rfl; intro hIsFn; refine o_callp hIsFn (hch ..) ?_) | (apply to_call Tryd.func61 rfl rfl; intro hIsFn; refine o_callp hIsFn (hsp ..) ?_) | (apply to_call Tryd.func88 rfl rfl; intro hIsFn; refine o_callf hIsFn (hla ..) ?_; skip) | (apply opsx_val; apply ex_slice_str (a := 0) (b := ix.toNat); (case hx => rfl); (case hT => rfl); (case he => rfl); (case ha => rfl); (case hb => exact ⟨_, av_int (by omega)⟩); (case hab => (first | omega | (simp; done) | (simp only [List.length_cons, List.length_nil, List.length_map]; omega) | (simp; omega))); (case hbl => (first | omega | (simp; done) | (simp only [List.length_cons, List.length_nil, List.length_map]; omega) | (simp; omega))); (case hN => exact nle rfl)) | (apply opsx_val; apply ex_slice_str (a := ix.toNat) (b := nm.length); (case hx => rfl); (case hT => rfl); (case he => rfl); (case ha => exact ⟨_, av_int (by omega)⟩); (case hb => rfl); (case hab => (first | omega | (simp; done) | (simp only [List.length_cons, List.length_nil, List.length_map]; omega) | (simp; omega))); (case hbl => (first | omega | (simp; done) | (simp only [List.length_cons, List.length_nil, List.length_map]; omega) | (simp; omega))); (case hN => exact nle rfl)) | (apply to_call Tryd.func142 rfl rfl; intro hIsFn; refine o_callf hIsFn (hit ..) ?_; skip) | (apply opsx_val; apply ex_max0; (case hx => rfl); (case hy => rfl); (case hN => exact nle rfl)) | (apply opsx_val; apply ex_slice_str (a := 0) (b := Int.toNat _); (case hx => rfl); (case hT => rfl); (case he => rfl); (case ha => rfl); (case hb => exact ⟨_, rfl⟩); (case hab => (first | omega | (simp; done) | (simp only [List.length_cons, List.length_nil, List.length_map]; omega) | (simp; omega))); (case hbl => (show _ ≤ (nm.take ix.toNat).length; omega)); (case hN => exact nle rfl)) | (apply to_call Tryd.func143 rfl rfl; intro hIsFn; refine o_callf hIsFn (htr ..) ?_; skip) | (apply to_call Tryd.func144 rfl rfl; intro hIsFn; refine o_callf hIsFn (hjo ..) ?_; skip) | (apply to_call Tryd.func110 rfl rfl; intro hIsFn; refine o_callf hIsFn (hgr ..) ?_; skip) | (apply opsx_val; apply ex_sadd; rfl; rfl; (simp only [List.length_append, List.length_cons, List.length_nil]; omega); exact nle rfl)) | ((first | (apply ops_split_t; rfl; rfl; exact nle rfl) | (apply ops_split_f; rfl; rfl; exact nle rfl) | (apply awp_cond; rfl)); all_goals (intro hc; have hp := hc; first | (simp at hp; done) | ((try simp at hp); first | (exfalso; omega) | skip))) | (apply awp_cond_any; rfl))
          all_goals try (exfalso; omega)
          all_goals ((refine f_pure (rs := [.tmp 4, .tmp 5]) ?_; (repeat' (first | exact rzl_nil | apply rzl_cons | exact rz_pure rfl | exact rz_ex | exact z_os | apply rz_agg | apply rz_tup | apply rz_clo | apply rz_int | apply rz_bool | apply rz_str | refine z_eq ?_ | apply rz_sl)); all_goals (simp_all [okOr])))
      · obtain ⟨hS, hE⟩ := hse.2 hix
        clear hse
        have hS' := hS.symm
        subst hS'
        subst hE
        subst hmk
        subst hrm
        cases hrr : decide (20 - ((([32, 40] ++ dec2 (k : Int) ++ [41] : Str)).length : Int) - (([] : Str).length : Int) < ((nm).length : Int))
        · rw [if_neg (of_decide_eq_false hrr)] at hcut
          subst hcut
          refine acall_intro Tryd.func124 rfl _ Tryd.ntmps124 (Nat.le_of_ble_eq_true rfl) _ Tryd.results124 0 rfl rfl ?_
          repeat' (first | refine walk ?_ | (first | (refine o_fzl ?_) | (apply to_call Tryd.func84 rfl rfl; intro hIsFn; refine o_callp hIsFn (hch ..) ?_) | (apply to_call Tryd.func61 rfl rfl; intro hIsFn; refine o_callp hIsFn (hsp ..) ?_) | (apply to_call Tryd.func88 rfl rfl; intro hIsFn; refine o_callf hIsFn (hla ..) ?_; skip) | (apply opsx_val; apply ex_slice_str (a := 0) (b := ix.toNat); (case hx => rfl); (case hT => rfl); (case he => rfl); (case ha => rfl); (case hb => exact ⟨_, av_int (by omega)⟩); (case hab => (first | omega | (simp; done) | (simp only [List.length_cons, List.length_nil, List.length_map]; omega) | (simp; omega))); (case hbl => (first | omega | (simp; done) | (simp only [List.length_cons, List.length_nil, List.length_map]; omega) | (simp; omega))); (case hN => exact nle rfl)) | (apply opsx_val; apply ex_slice_str (a := ix.toNat) (b := nm.length); (case hx => rfl); (case hT => rfl); (case he => rfl); (case ha => exact ⟨_, av_int (by omega)⟩); (case hb => rfl); (case hab => (first | omega | (simp; done) | (simp only [List.length_cons, List.length_nil, List.length_map]; omega) | (simp; omega))); (case hbl => (first | omega | (simp; done) | (simp only [List.length_cons, List.length_nil, List.length_map]; omega) | (simp; omega))); (case hN => exact nle rfl)) | (apply to_call Tryd.func142 rfl rfl; intro hIsFn; refine o_callf hIsFn (hit ..) ?_; skip) | (apply opsx_val; apply ex_max0; (case hx => rfl); (case hy => rfl); (case hN => exact nle rfl)) | (apply opsx_val; apply ex_slice_str (a := 0) (b := Int.toNat _); (case hx => rfl); (case hT => rfl); (case he => rfl); (case ha => rfl); (case hb => exact ⟨_, rfl⟩); (case hab => (first | omega | (simp; done) | (simp only [List.length_cons, List.length_nil, List.length_map]; omega) | (simp; omega))); (case hbl => omega); (case hN => exact nle rfl)) | (apply to_call Tryd.func143 rfl rfl; intro hIsFn; refine o_callf hIsFn (htr ..) ?_; skip) | (apply to_call Tryd.func144 rfl rfl; intro hIsFn; refine o_callf hIsFn (hjo ..) ?_; skip) | (apply to_call Tryd.func110 rfl rfl; intro hIsFn; refine o_callf hIsFn (hgr ..) ?_; skip) | (apply opsx_val; apply ex_sadd; rfl; rfl; (simp only [List.length_append, List.length_cons, List.length_nil]; omega); exact nle rfl)) | ((first | (apply ops_split_t; rfl; rfl; exact nle rfl) | (apply ops_split_f; rfl; rfl; exact nle rfl) | (apply awp_cond; rfl)); all_goals (intro hc; have hp := hc; first | (simp at hp; done) | ((try simp at hp); first | (exfalso; omega) | skip))) | (apply awp_cond_any; rfl))
          all_goals try (exfalso; omega)
          all_goals ((refine f_pure (rs := [.tmp 4, .tmp 5]) ?_; (repeat' (first | exact rzl_nil | apply rzl_cons | exact rz_pure rfl | exact rz_ex | exact z_os | apply rz_agg | apply rz_tup | apply rz_clo | apply rz_int | apply rz_bool | apply rz_str | refine z_eq ?_ | apply rz_sl)); all_goals (simp_all [okOr])))
        · have hr2 := of_decide_eq_true hrr
          rw [if_pos hr2] at hcut
          subst hcut
          refine acall_intro Tryd.func124 rfl _ Tryd.ntmps124 (Nat.le_of_ble_eq_true rfl) _ Tryd.results124 0 rfl rfl ?_
          repeat' (first | refine walk ?_ | (first | (refine o_fzl ?_) | (apply to_call Tryd.func84 rfl rfl; intro hIsFn; refine o_callp hIsFn (hch ..) ?_) | (apply to_call Tryd.func61 rfl rfl; intro hIsFn; refine o_callp hIsFn (hsp ..) ?_) | (apply to_call Tryd.func88 rfl rfl; intro hIsFn; refine o_callf hIsFn (hla ..) ?_; skip) | (apply opsx_val; apply ex_slice_str (a := 0) (b := ix.toNat); (case hx => rfl); (case hT => rfl); (case he => rfl); (case ha => rfl); (case hb => exact ⟨_, av_int (by omega)⟩); (case hab => (first | omega | (simp; done) | (simp only [List.length_cons, List.length_nil, List.length_map]; omega) | (simp; omega))); (case hbl => (first | omega | (simp; done) | (simp only [List.length_cons, List.length_nil, List.length_map]; omega) | (simp; omega))); (case hN => exact nle rfl)) | (apply opsx_val; apply ex_slice_str (a := ix.toNat) (b := nm.length); (case hx => rfl); (case hT => rfl); (case he => rfl); (case ha => exact ⟨_, av_int (by omega)⟩); (case hb => rfl); (case hab => (first | omega | (simp; done) | (simp only [List.length_cons, List.length_nil, List.length_map]; omega) | (simp; omega))); (case hbl => (first | omega | (simp; done) | (simp only [List.length_cons, List.length_nil, List.length_map]; omega) | (simp; omega))); (case hN => exact nle rfl)) | (apply to_call Tryd.func142 rfl rfl; intro hIsFn; refine o_callf hIsFn (hit ..) ?_; skip) | (apply opsx_val; apply ex_max0; (case hx => rfl); (case hy => rfl); (case hN => exact nle rfl)) | (apply opsx_val; apply ex_slice_str (a := 0) (b := Int.toNat _); (case hx => rfl); (case hT => rfl); (case he => rfl); (case ha => rfl); (case hb => exact ⟨_, rfl⟩); (case hab => (first | omega | (simp; done) | (simp only [List.length_cons, List.length_nil, List.length_map]; omega) | (simp; omega))); (case hbl => omega); (case hN => exact nle rfl)) | (apply to_call Tryd.func143 rfl rfl; intro hIsFn; refine o_callf hIsFn (htr ..) ?_; skip) | (apply to_call Tryd.func144 rfl rfl; intro hIsFn; refine o_callf hIsFn (hjo ..) ?_; skip) | (apply to_call Tryd.func110 rfl rfl; intro hIsFn; refine o_callf hIsFn (hgr ..) ?_; skip) | (apply opsx_val; apply ex_sadd; rfl; rfl; (simp only [List.length_append, List.length_cons, List.length_nil]; omega); exact nle rfl)) | ((first | (apply ops_split_t; rfl; rfl; exact nle rfl) | (apply ops_split_f; rfl; rfl; exact nle rfl) | (apply awp_cond; rfl)); all_goals (intro hc; have hp := hc; first | (simp at hp; done) | ((try simp at hp); first | (exfalso; omega) | skip))) | (apply awp_cond_any; rfl))
          all_goals try (exfalso; omega)
          all_goals ((refine f_pure (rs := [.tmp 4, .tmp 5]) ?_; (repeat' (first | exact rzl_nil | apply rzl_cons | exact rz_pure rfl | exact rz_ex | exact z_os | apply rz_agg | apply rz_tup | apply rz_clo | apply rz_int | apply rz_bool | apply rz_str | refine z_eq ?_ | apply rz_sl)); all_goals (simp_all [okOr])))
  · rw [show asideErr p n = pathErr p from by simp [asideErr, h0]]
    refine acall_intro Tryd.func124 rfl _ Tryd.ntmps124 (Nat.le_of_ble_eq_true rfl) _ Tryd.results124 0 rfl rfl ?_
    repeat' (first | refine walk ?_ | (first | (refine o_fzl ?_) | (apply to_call Tryd.func84 rfl rfl; intro hIsFn; refine o_callp hIsFn (hch ..) ?_)) | ((first | (apply ops_split_t; rfl; rfl; exact nle rfl) | (apply ops_split_f; rfl; rfl; exact nle rfl) | (apply awp_cond; rfl)); all_goals (intro hc; have hp := hc; first | (simp at hp; done) | ((try simp at hp); first | (exfalso; omega) | skip))) | (apply awp_cond_any; rfl))
    all_goals try (exfalso; omega)
    all_goals ((refine f_pure (rs := [.tmp 4, .tmp 5]) ?_; (repeat' (first | exact rzl_nil | apply rzl_cons | exact rz_pure rfl | exact rz_ex | exact z_os | apply rz_agg | apply rz_tup | apply rz_clo | apply rz_int | apply rz_bool | apply rz_str | refine z_eq ?_ | apply rz_sl)); all_goals (simp_all [okOr])))
end Go.Proofs.YtkkfilkmkdnboaaDoor

/- Paths in the abstract layer, 8: the reference's NamesOf, TooGreat, CheckPath, CheckPaths. -/
set_option linter.unusedSimpArgs false
set_option linter.unnecessarySimpa false
set_option maxHeartbeats 1000000
namespace Go.Proofs.YtkkfilkmkdnboaaDoor
open Go.Ab Go.RowKit
set_option maxRecDepth 10000
attribute [local irreducible] Awp Ops OpsX Wanted Red ExOk Go.Ab.Fin ACall Rz RzL RzRows Enters ResOk RenV RenVL ArgV ArgVL

def fromN (p : Str) (i : Nat) : Nat := i - (lastOf (p.take i)).length
def nsL (p : Str) (i : Nat) : List Str := (namesOf (p.take i)).dropLast
@[simp] theorem nsL_zero (p : Str) : nsL p 0 = [] := rfl
@[simp] theorem fromN_zero (p : Str) : fromN p 0 = 0 := rfl
@[simp] theorem cellsOf_str (s : Str) : cellsOf (AV.v (str s)) = [AV.v (str s)] := rfl
theorem last_eq {s : Str} {X : List Str} {y : Str} (h : namesOf s = X ++ [y]) : (namesOf s).dropLast = X ∧ lastOf s = y := by
  have h1 := (split_ref s).1
  rw [h, List.dropLast_concat] at h1
  refine ⟨by rw [h, List.dropLast_concat], ?_⟩
  have := List.append_cancel_left h1
  simpa using this.symm
theorem step_slash {p : Str} {i : Nat} (h : i < p.length) (hc : p[i] = 47) : nsL p (i + 1) = nsL p i ++ [lastOf (p.take i)] ∧ fromN p (i + 1) = i + 1 := by
  have e : p.take (i + 1) = p.take i ++ [47] := by rw [List.take_succ_eq_append_getElem h, hc]
  obtain ⟨h1, h2⟩ := last_eq (namesOf_slash (p.take i))
  refine ⟨?_, ?_⟩
  · show (namesOf (p.take (i + 1))).dropLast = _
    rw [e, h1]; exact (split_ref (p.take i)).1
  · show i + 1 - (lastOf (p.take (i + 1))).length = _
    rw [e, h2]; rfl
theorem step_other {p : Str} {i : Nat} (h : i < p.length) (hc : ¬ p[i] = 47) : nsL p (i + 1) = nsL p i ∧ fromN p (i + 1) = fromN p i := by
  have e : p.take (i + 1) = p.take i ++ [p[i]] := List.take_succ_eq_append_getElem h
  obtain ⟨h1, h2⟩ := last_eq (namesOf_snoc hc (p.take i))
  refine ⟨?_, ?_⟩
  · show (namesOf (p.take (i + 1))).dropLast = _
    rw [e, h1]; rfl
  · show i + 1 - (lastOf (p.take (i + 1))).length = _
    rw [e, h2]; unfold fromN; simp
theorem from_le {p : Str} {i : Nat} (h : i ≤ p.length) : fromN p i ≤ i ∧ (p.take i).drop (fromN p i) = lastOf (p.take i) := by
  have := (lastOf_suffix (p.take i)).2
  rw [List.length_take, Nat.min_eq_left h] at this
  exact ⟨Nat.sub_le _ _, this⟩
theorem nsL_len (p : Str) (i : Nat) : (nsL p i).length ≤ p.length := by
  unfold nsL
  rw [List.length_dropLast, namesOf_len]
  have h1 : (p.take i).count 47 ≤ (p.take i).length := List.count_le_length
  have h2 : (p.take i).length ≤ p.length := by rw [List.length_take]; omega
  omega
theorem mem_take_succ {α : Type} {l : List α} {k : Nat} (hk : k < l.length) {p : α → Prop} (h : ∀ x, x ∈ l.take k → p x) (hx : p l[k]) : ∀ x, x ∈ l.take (k + 1) → p x := by
  intro x hm
  rw [List.take_succ_eq_append_getElem hk] at hm
  rcases List.mem_append.1 hm with hm | hm
  · exact h x hm
  · simp at hm; exact hm ▸ hx
theorem namesOf_many (p : Str) : (namesOf p).length ≤ p.length + 1 := by
  rw [namesOf_len]
  have : p.count 47 ≤ p.length := List.count_le_length
  omega
end Go.Proofs.YtkkfilkmkdnboaaDoor

/- Paths in the abstract layer, 9: the reference's PathOf, ParentOf, LastOf, Joined, IsIn. -/
set_option linter.unusedSimpArgs false
set_option linter.unnecessarySimpa false
set_option maxHeartbeats 1000000
namespace Go.Proofs.YtkkfilkmkdnboaaDoor
open Go.Ab Go.RowKit
set_option maxRecDepth 10000
attribute [local irreducible] Awp Ops OpsX Wanted Red ExOk Go.Ab.Fin ACall Rz RzL RzRows Enters ResOk RenV RenVL ArgV ArgVL

theorem pathOf_take (l : List Str) (i : Nat) : (pathOf (l.take i)).length ≤ (pathOf l).length := by
  by_cases h1 : l.take i = []
  · rw [h1]; simp [pathOf]
  · by_cases h2 : l.drop i = []
    · have := List.take_append_drop i l
      rw [h2, List.append_nil] at this
      rw [this]; exact Nat.le_refl _
    · have h3 := pathOf_app h1 h2
      rw [List.take_append_drop] at h3
      rw [h3]; simp
theorem pathOf_mem {l : List Str} {i : Nat} (h : i < l.length) : l[i].length ≤ (pathOf l).length := by
  have h1 := pathOf_take l (i + 1)
  by_cases h0 : i = 0
  · subst h0
    rw [pathOf_first h] at h1; exact h1
  · rw [pathOf_succ h (by omega)] at h1
    simp at h1; omega
theorem a_pathOf (l : List Str) (hl : l.length ≤ 8000000000) (hp : (pathOf l).length ≤ 8000000000) : AFn C.P 82 [.sl false (l.map strRow)] (.v (str (pathOf l))) := by
  refine acall_intro Tryd.func82 rfl _ Tryd.ntmps82 (Nat.le_of_ble_eq_true rfl) _ Tryd.results82 0 rfl rfl ?_
  repeat' (first | refine walk ?_ | fail | ((first | (apply awp_cond; rfl)); all_goals (intro hc; have hp := hc; first | (simp at hp; done) | ((try simp at hp); first | (exfalso; omega) | skip))) | (apply awp_cond_any; rfl))
  (refine Awp.red (red_pure (ts := [(0, .sl false (l.map strRow)), (3, .v (str (pathOf (l.take 0)))), (4, .v (.int .i64 ((0 : Nat) : Int)))]) ?_) ?_; ((repeat (first | exact tsok_nil | refine p_pure ?_ | refine p_eq ?_ ?_))))
  refine awp_loop (fun n σ => ∃ i : Nat, i ≤ l.length ∧ n = l.length - i ∧ (True) ∧ σ = ⟨[(0, .sl false (l.map strRow)), (3, .v (str (pathOf (l.take i)))), (4, .v (.int .i64 (i : Int)))], [], C.nh⟩) l.length ⟨0, Nat.zero_le _, rfl, trivial, rfl⟩ ?_
  rintro n σ ⟨i, hi, rfl, -, rfl⟩
  by_cases hlt : i < l.length
  · have hr := getRow (f := strRow) hlt
    have hb1 := pathOf_take l i
    have hb2 := pathOf_mem hlt
    have hs0 := @pathOf_succ l i hlt
    have hf0 := @pathOf_first l (by omega)
    repeat' (first | refine walk ?_ | (first | (apply opsx_val; apply ex_sadd; rfl; rfl; (simp only [List.length_append, List.length_cons, List.length_nil]; omega); exact nle rfl)) | ((first | (apply awp_cond; rfl)); all_goals (intro hc; have hp := hc; first | (simp at hp; done) | ((try simp at hp); first | (exfalso; omega) | skip))) | (apply awp_cond_any; rfl))
    all_goals try (exfalso; omega)
    · refine ⟨l.length - (i + 1), _, by omega, red_pure (ts := [(0, .sl false (l.map strRow)), (3, .v (str (pathOf (l.take (i + 1))))), (4, .v (.int .i64 ((i + 1 : Nat) : Int)))]) ?_, i + 1, by omega, rfl, trivial, rfl⟩; ((repeat (first | exact tsok_nil | refine p_pure ?_ | refine p_eq ?_ ?_)); all_goals (rw [hs0 (by omega)]))
    · have h0 : i = 0 := by omega
      have hf1 : pathOf (l.take (i + 1)) = l[i] := by subst h0; exact hf0
      refine ⟨l.length - (i + 1), _, by omega, red_pure (ts := [(0, .sl false (l.map strRow)), (3, .v (str (pathOf (l.take (i + 1))))), (4, .v (.int .i64 ((i + 1 : Nat) : Int)))]) ?_, i + 1, by omega, rfl, trivial, rfl⟩; ((repeat (first | exact tsok_nil | refine p_pure ?_ | refine p_eq ?_ ?_)); all_goals (rw [hf1]; subst h0; rfl))
  obtain rfl : i = l.length := by omega
  rw [List.take_length]
  repeat' (first | refine walk ?_ | fail | ((first | (apply awp_cond; rfl)); all_goals (intro hc; have hp := hc; first | (simp at hp; done) | ((try simp at hp); first | (exfalso; omega) | skip))) | (apply awp_cond_any; rfl))
  all_goals try (exfalso; omega)
  (refine f_pure (rs := [.tmp 2]) ?_; (repeat' (first | exact rzl_nil | apply rzl_cons | exact rz_pure rfl | exact rz_ex | exact z_os | apply rz_agg | apply rz_tup | apply rz_clo | apply rz_int | apply rz_bool | apply rz_str | refine z_eq ?_ | apply rz_sl)); all_goals skip)
theorem names_pos (p : Str) : 0 < (namesOf p).length := List.length_pos_iff.2 (namesOf_ne p)
end Go.Proofs.YtkkfilkmkdnboaaDoor

/- Paths: Pa9, under the name that the trees know it by. -/

/- Trees in the abstract layer, 1: versions, entries, the place of a path, the parent. -/
set_option linter.unusedSimpArgs false
set_option linter.unnecessarySimpa false
set_option maxHeartbeats 1000000
namespace Go.Proofs.YtkkfilkmkdnboaaDoor
open Go.Ab Go.RowKit
set_option maxRecDepth 10000
attribute [local irreducible] Awp Ops OpsX Wanted Red ExOk Go.Ab.Fin ACall Rz RzL RzRows Enters ResOk RenV RenVL ArgV ArgVL

theorem a_isNaN (s : Str) : AFn C.P 111 [.v (str s)] (.v (.bool false)) := by
  refine acall_intro Tryd.func111 rfl _ Tryd.ntmps111 (Nat.le_of_ble_eq_true rfl) _ Tryd.results111 0 rfl rfl ?_
  repeat' (first | refine walk ?_ | fail | ((first | (apply awp_cond; rfl)); all_goals (intro hc; have hp := hc; first | (simp at hp; done) | ((try simp at hp); first | (exfalso; omega) | skip))) | (apply awp_cond_any; rfl))
  all_goals (apply fin_bool; rfl; simp)
theorem a_compare (a b : Str) : AFn C.P 87 [.v (str a), .v (str b)] (.v (.int .i64 (strCmp a b))) := by
  refine acall_intro Tryd.func87 rfl _ Tryd.ntmps87 (Nat.le_of_ble_eq_true rfl) _ Tryd.results87 0 rfl rfl ?_
  repeat' (first | refine walk ?_ | (first | (apply to_call Tryd.func111 rfl rfl; intro hIsFn; refine o_callf hIsFn (a_isNaN ..) ?_; skip)) | ((first | (apply awp_cond; rfl)); all_goals (intro hc; have hp := hc; first | (simp at hp; done) | ((try simp at hp); first | (exfalso; omega) | skip))) | (apply awp_cond_any; rfl))
  all_goals (apply fin_int; rfl; simp_all [strCmp])
theorem a_isVerT (n : Int) : AFn C.P 78 [.v (.int .i64 n)] (.v (.bool (isVer n))) := by
  refine acall_intro Tryd.func78 rfl _ Tryd.ntmps78 (Nat.le_of_ble_eq_true rfl) _ Tryd.results78 0 rfl rfl ?_
  repeat' (first | refine walk ?_ | fail | ((first | (apply ops_split_t; rfl; rfl; exact nle rfl) | (apply ops_split_f; rfl; rfl; exact nle rfl) | (apply awp_cond; rfl)); all_goals (intro hc; have hp := hc; first | (simp at hp; done) | ((try simp at hp); first | (exfalso; omega) | skip))) | (apply awp_cond_any; rfl))
  all_goals (apply fin_bool; rfl; simp_all [isVer]; try (intro _; omega))
theorem a_isVerR (n : Int) : AFn C.P 56 [.v (.int .i64 n)] (.v (.bool (isVer n))) := by
  refine acall_intro Tryd.func56 rfl _ Tryd.ntmps56 (Nat.le_of_ble_eq_true rfl) _ Tryd.results56 0 rfl rfl ?_
  repeat' (first | refine walk ?_ | fail | ((first | (apply ops_split_t; rfl; rfl; exact nle rfl) | (apply ops_split_f; rfl; rfl; exact nle rfl) | (apply awp_cond; rfl)); all_goals (intro hc; have hp := hc; first | (simp at hp; done) | ((try simp at hp); first | (exfalso; omega) | skip))) | (apply awp_cond_any; rfl))
  all_goals (apply fin_bool; rfl; simp_all [isVer]; try (intro _; omega))
theorem a_checkEntry (e : Ent) (he : e.small) : AFn C.P 106 [.agg e.row] (.v (.int .i64 (entErr e))) := by
  have h1 := he.1
  have h2 := he.2
  have hp := a_pcheck e.path (by omega)
  have hv := a_isVerT e.ver
  have hE : entErr e = if pathErr e.path = 0 then (if e.fold = true ∧ ¬ e.text = [] then 1 else if 300 < e.text.length then 2 else if isVer e.ver = true then 0 else 3) else pathErr e.path := rfl
  generalize entErr e = E at *
  generalize isVer e.ver = V at *
  generalize pathErr e.path = F at *
  refine acall_intro Tryd.func106 rfl _ Tryd.ntmps106 (Nat.le_of_ble_eq_true rfl) _ Tryd.results106 0 rfl rfl ?_
  repeat' (first | refine walk ?_ | (first | (apply to_call Tryd.func59 rfl rfl; intro hIsFn; refine o_callf hIsFn (hp ..) ?_; skip) | (apply to_call Tryd.func78 rfl rfl; intro hIsFn; refine o_callf hIsFn (hv ..) ?_; skip)) | ((first | (apply ops_split_t; rfl; rfl; exact nle rfl) | (apply ops_split_f; rfl; rfl; exact nle rfl) | (apply awp_cond; rfl)); all_goals (intro hc; have hp := hc; first | (simp at hp; done) | ((try simp at hp); first | (exfalso; omega) | skip))) | (apply awp_cond_any; rfl))
  all_goals try (exfalso; omega)
  all_goals (apply fin_int; rfl; rw [hE]; simp_all; try omega)
theorem a_atC (e : Ent) (p : Str) : AFn C.P 86 [.agg e.row, .v (str p)] (.v (.int .i64 (strCmp e.path p))) := by
  refine acall_intro Tryd.func86 rfl _ Tryd.ntmps86 (Nat.le_of_ble_eq_true rfl) _ Tryd.results86 0 rfl rfl ?_
  repeat' (first | refine walk ?_ | (first | (apply to_call Tryd.func87 rfl rfl; intro hIsFn; refine o_callf hIsFn (a_compare ..) ?_; skip)) | ((first | (apply awp_cond; rfl)); all_goals (intro hc; have hp := hc; first | (simp at hp; done) | ((try simp at hp); first | (exfalso; omega) | skip))) | (apply awp_cond_any; rfl))
  all_goals (apply fin_int; rfl; rfl)
theorem a_searchE (l : List Ent) (p : Str) (hl : l.length ≤ 140737488355328) (hs : rising entLt l = true) :
    AFn C.P 85 [entAV l, .v (str p), .clo (.func 86) [] []] (.tup [.v (.int .i64 (posE l p)), .v (.bool (hitE l p))]) := by
  refine acall_intro Tryd.func85 rfl _ Tryd.ntmps85 (Nat.le_of_ble_eq_true rfl) _ Tryd.results85 0 rfl rfl ?_
  repeat' (first | refine walk ?_ | fail | ((first | (apply ops_split_t; rfl; rfl; exact nle rfl) | (apply ops_split_f; rfl; rfl; exact nle rfl) | (apply awp_cond; rfl)); all_goals (intro hc; have hp := hc; first | (simp at hp; done) | ((try simp at hp); first | (exfalso; omega) | skip))) | (apply awp_cond_any; rfl))
  (refine Awp.red (red_pure (ts := [(0, entAV l), (1, .v (str p)), (2, .clo (.func 86) [] []), (8, .v (.int .i64 l.length)), (9, .v (.int .i64 ((0 : Nat) : Int))), (10, .v (.int .i64 l.length))]) ?_) ?_; ((repeat (first | exact tsok_nil | refine p_pure ?_ | refine p_eq ?_ ?_))))
  all_goals try (rw [List.length_map]; done)
  refine awp_loop (fun n σ => ∃ lo hi : Nat, lo ≤ hi ∧ hi ≤ l.length ∧ n = hi - lo ∧ (∀ (k : Nat) (h : k < l.length), k < lo → Op.bytesLess l[k].path p = true) ∧ (∀ (k : Nat) (h : k < l.length), hi ≤ k → Op.bytesLess l[k].path p = false) ∧ σ = ⟨[(0, entAV l), (1, .v (str p)), (2, .clo (.func 86) [] []), (8, .v (.int .i64 l.length)), (9, .v (.int .i64 ((lo : Nat) : Int))), (10, .v (.int .i64 ((hi : Nat) : Int)))], [], C.nh⟩) l.length ⟨0, l.length, by omega, Nat.le_refl _, rfl, fun _ _ h => absurd h (by omega), fun _ _ h => absurd h (by omega), rfl⟩ ?_
  rintro n σ ⟨lo, hi, hle, hhi, rfl, h1, h2, rfl⟩
  by_cases hlt : lo < hi
  · obtain ⟨m, hm⟩ : ∃ m : Nat, m = (lo + hi) / 2 := ⟨_, rfl⟩
    have hmi : ((lo : Int) + (hi : Int)) / 2 = (m : Int) := by omega
    have hml : m < l.length := by omega
    have hr := getRow (f := Ent.row) hml
    have hr2 : (l.map Ent.row)[(((lo : Int) + (hi : Int)) / 2).toNat]? = some l[m].row := by rw [hmi]; exact hr
    repeat' (first | refine walk ?_ | (first | (apply opsx_val; first | (apply ex_conv_u; rfl; rfl; rfl; rfl; rfl; omega; omega; exact nle rfl) | (apply ex_conv_i; rfl; rfl; rfl; rfl; rfl; omega; omega; exact nle rfl)) | (apply opsx_val; apply ex_half; (case hx => rfl); (case hy => rfl); (case hk => decide); (case hN => exact nle rfl)) | (refine o_callv Tryd.func86 (a_atC ..) ?_)) | ((first | (apply ops_split_t; rfl; rfl; exact nle rfl) | (apply ops_split_f; rfl; rfl; exact nle rfl) | (apply awp_cond; rfl)); all_goals (intro hc; have hp := hc; first | (simp at hp; done) | ((try simp at hp); first | (exfalso; omega) | skip))) | (apply awp_cond_any; rfl))
    all_goals try (exfalso; omega)
    · have hmg : Op.bytesLess l[m].path p = true := (strCmp_neg _ _).1 hp
      refine ⟨hi - (m + 1), _, by omega, red_pure (ts := [(0, entAV l), (1, .v (str p)), (2, .clo (.func 86) [] []), (8, .v (.int .i64 l.length)), (9, .v (.int .i64 ((m + 1 : Nat) : Int))), (10, .v (.int .i64 ((hi : Nat) : Int)))]) ?_, m + 1, hi, by omega, hhi, rfl, fun k h hk => ?_, h2, rfl⟩
      · (repeat (first | exact tsok_nil | refine p_pure ?_ | refine p_eq ?_ ?_))
        all_goals (rw [hmi]; rfl)
      · by_cases e : k = m
        · subst e; exact hmg
        · exact bl_trans (rising_ltE hs k m h hml (by omega)) hmg
    · have hmg : Op.bytesLess l[m].path p = false := (by
        cases h : Op.bytesLess l[m].path p
        · rfl
        · have := (strCmp_neg _ _).2 h; omega)
      refine ⟨m - lo, _, by omega, red_pure (ts := [(0, entAV l), (1, .v (str p)), (2, .clo (.func 86) [] []), (8, .v (.int .i64 l.length)), (9, .v (.int .i64 ((lo : Nat) : Int))), (10, .v (.int .i64 ((m : Nat) : Int)))]) ?_, lo, m, by omega, by omega, rfl, h1, fun k h hk => ?_, rfl⟩
      · (repeat (first | exact tsok_nil | refine p_pure ?_ | refine p_eq ?_ ?_))
        all_goals (rw [hmi])
      · by_cases e : k = m
        · subst e; exact hmg
        · cases hkg : Op.bytesLess l[k].path p
          · rfl
          · rw [bl_trans (rising_ltE hs m k hml h (by omega)) hkg] at hmg; cases hmg
  obtain rfl : lo = hi := by omega
  have hpos : posE l p = lo := posE_is hhi h1 (fun h => h2 lo h (by omega))
  by_cases hin : lo < l.length
  · have hr := getRow (f := Ent.row) hin
    have hhit : hitE l p = decide (strCmp l[lo].path p = 0) := by
      rw [hitE_pos hs, hpos, List.getElem?_eq_getElem hin]
    repeat' (first | refine walk ?_ | (first | (refine o_callv Tryd.func86 (a_atC ..) ?_)) | ((first | (apply ops_split_t; rfl; rfl; exact nle rfl) | (apply ops_split_f; rfl; rfl; exact nle rfl) | (apply awp_cond; rfl)); all_goals (intro hc; have hp := hc; first | (simp at hp; done) | ((try simp at hp); first | (exfalso; omega) | skip))) | (apply awp_cond_any; rfl))
    all_goals try (exfalso; omega)
    rw [hpos, hhit]
    (refine f_pure (rs := [.tmp 6, .tmp 7]) ?_; (repeat' (first | exact rzl_nil | apply rzl_cons | exact rz_pure rfl | exact rz_ex | exact z_os | apply rz_agg | apply rz_tup | apply rz_clo | apply rz_int | apply rz_bool | apply rz_str | refine z_eq ?_ | apply rz_sl)); all_goals trace_state)
  · have hhit : hitE l p = false := by
      rw [hitE_pos hs, hpos, List.getElem?_eq_none (by omega)]
    repeat' (first | refine walk ?_ | (first | (refine o_callv Tryd.func86 (a_atC ..) ?_)) | ((first | (apply ops_split_t; rfl; rfl; exact nle rfl) | (apply ops_split_f; rfl; rfl; exact nle rfl) | (apply awp_cond; rfl)); all_goals (intro hc; have hp := hc; first | (simp at hp; done) | ((try simp at hp); first | (exfalso; omega) | skip))) | (apply awp_cond_any; rfl))
    all_goals try (exfalso; omega)
    rw [hpos, hhit]
    (refine f_pure (rs := [.tmp 6, .tmp 7]) ?_; (repeat' (first | exact rzl_nil | apply rzl_cons | exact rz_pure rfl | exact rz_ex | exact z_os | apply rz_agg | apply rz_tup | apply rz_clo | apply rz_int | apply rz_bool | apply rz_str | refine z_eq ?_ | apply rz_sl)); all_goals trace_state)
theorem a_at (l : List Ent) (p : Str) (hl : l.length ≤ 140737488355328) (hs : rising entLt l = true) :
    AFn C.P 60 [entAV l, .v (str p)] (.tup [.v (.int .i64 (posE l p)), .v (.bool (hitE l p))]) := by
  have hse := a_searchE l p hl hs
  refine acall_intro Tryd.func60 rfl _ Tryd.ntmps60 (Nat.le_of_ble_eq_true rfl) _ Tryd.results60 0 rfl rfl ?_
  repeat' (first | refine walk ?_ | (first | (apply to_call Tryd.func85 rfl rfl; intro hIsFn; refine o_callp hIsFn (hse ..) ?_)) | ((first | (apply awp_cond; rfl)); all_goals (intro hc; have hp := hc; first | (simp at hp; done) | ((try simp at hp); first | (exfalso; omega) | skip))) | (apply awp_cond_any; rfl))
  (refine f_pure (rs := [.tmp 4, .tmp 5]) ?_; (repeat' (first | exact rzl_nil | apply rzl_cons | exact rz_pure rfl | exact rz_ex | exact z_os | apply rz_agg | apply rz_tup | apply rz_clo | apply rz_int | apply rz_bool | apply rz_str | refine z_eq ?_ | apply rz_sl)); all_goals trace_state)
end Go.Proofs.YtkkfilkmkdnboaaDoor

/- Trees in the abstract layer, 2: the parent; checkTree, check, Check. -/
set_option linter.unusedSimpArgs false
set_option linter.unnecessarySimpa false
set_option maxHeartbeats 1000000
namespace Go.Proofs.YtkkfilkmkdnboaaDoor
open Go.Ab Go.RowKit
set_option maxRecDepth 10000
attribute [local irreducible] Awp Ops OpsX Wanted Red ExOk Go.Ab.Fin ACall Rz RzL RzRows Enters ResOk RenV RenVL ArgV ArgVL

def parEnt (l : List Ent) (p : Str) : Ent := if parentOf p = [] then ⟨[], true, [], 0⟩ else match l.find? (atP (parentOf p)) with | some x => x | none => ⟨[], false, [], 0⟩
def parOk (l : List Ent) (p : Str) : Bool := decide (parentOf p = []) || hitE l (parentOf p)
theorem parEnt_err (l : List Ent) (p : Str) : folderErr l (parentOf p) = if parOk l p = true then (if (parEnt l p).fold = true then 0 else 4) else 5 := by
  unfold folderErr parOk parEnt
  by_cases h : parentOf p = []
  · simp [h]
  · cases hh : hitE l (parentOf p) with
    | true =>
      obtain ⟨x, hx, hk⟩ := List.any_eq_true.1 hh
      cases hf : l.find? (atP (parentOf p)) with
      | none => rw [List.find?_eq_none] at hf; exact absurd hk (hf x hx)
      | some y => simp [h]
    | false => simp [h, (hitE_none hh).1]
theorem a_parentT (l : List Ent) (p : Str) (hl : l.length ≤ 140737488355328) (hs : rising entLt l = true) (hp : p.length ≤ 140737488355328) :
    AFn C.P 107 [entAV l, .v (str p)] (.tup [.agg (parEnt l p).row, .v (.bool (parOk l p))]) := by
  have hsp := a_split p (by omega)
  have hat := a_at l (parentOf p) hl hs
  by_cases h : parentOf p = []
  · have e1 : parEnt l p = ⟨[], true, [], 0⟩ := by simp [parEnt, h]
    have e2 : parOk l p = true := by simp [parOk, h]
    rw [h] at hsp hat
    rw [e1, e2]
    refine acall_intro Tryd.func107 rfl _ Tryd.ntmps107 (Nat.le_of_ble_eq_true rfl) _ Tryd.results107 0 rfl rfl ?_
    repeat' (first | refine walk ?_ | (first | (apply to_call Tryd.func61 rfl rfl; intro hIsFn; refine o_callp hIsFn (hsp ..) ?_) | (apply to_call Tryd.func60 rfl rfl; intro hIsFn; refine o_callp hIsFn (hat ..) ?_)) | ((first | (apply awp_cond; rfl)); all_goals (intro hc; have hp := hc; first | (simp at hp; done) | ((try simp at hp); first | (exfalso; omega) | skip))) | (apply awp_cond_any; rfl))
    all_goals try (exfalso; simp_all; done)
    (refine f_pure (rs := [.cell 4 65, .tmp 5]) ?_; (repeat' (first | exact rzl_nil | apply rzl_cons | exact rz_pure rfl | exact rz_ex | exact z_os | apply rz_agg | apply rz_tup | apply rz_clo | apply rz_int | apply rz_bool | apply rz_str | refine z_eq ?_ | apply rz_sl)); all_goals trace_state)
  · cases hh : hitE l (parentOf p) with
    | true =>
      obtain ⟨hk, hpe, hfi, -⟩ := hitE_at hs hh
      have e1 : parEnt l p = l[posE l (parentOf p)] := by simp [parEnt, h, hfi]
      have e2 : parOk l p = true := by simp [parOk, hh]
      rw [hh] at hat
      rw [e1, e2]
      generalize posE l (parentOf p) = k at *
      have hr := getRow (f := Ent.row) hk
      refine acall_intro Tryd.func107 rfl _ Tryd.ntmps107 (Nat.le_of_ble_eq_true rfl) _ Tryd.results107 0 rfl rfl ?_
      repeat' (first | refine walk ?_ | (first | (apply to_call Tryd.func61 rfl rfl; intro hIsFn; refine o_callp hIsFn (hsp ..) ?_) | (apply to_call Tryd.func60 rfl rfl; intro hIsFn; refine o_callp hIsFn (hat ..) ?_)) | ((first | (apply awp_cond; rfl)); all_goals (intro hc; have hp := hc; first | (simp at hp; done) | ((try simp at hp); first | (exfalso; omega) | skip))) | (apply awp_cond_any; rfl))
      all_goals try (exfalso; first | exact h (by assumption) | (simp_all; done))
      (refine f_pure (rs := [.cell 4 65, .tmp 5]) ?_; (repeat' (first | exact rzl_nil | apply rzl_cons | exact rz_pure rfl | exact rz_ex | exact z_os | apply rz_agg | apply rz_tup | apply rz_clo | apply rz_int | apply rz_bool | apply rz_str | refine z_eq ?_ | apply rz_sl)); all_goals trace_state)
    | false =>
      have e1 : parEnt l p = ⟨[], false, [], 0⟩ := by simp [parEnt, h, (hitE_none hh).1]
      have e2 : parOk l p = false := by simp [parOk, hh, h]
      rw [hh] at hat
      rw [e1, e2]
      refine acall_intro Tryd.func107 rfl _ Tryd.ntmps107 (Nat.le_of_ble_eq_true rfl) _ Tryd.results107 0 rfl rfl ?_
      repeat' (first | refine walk ?_ | (first | (apply to_call Tryd.func61 rfl rfl; intro hIsFn; refine o_callp hIsFn (hsp ..) ?_) | (apply to_call Tryd.func60 rfl rfl; intro hIsFn; refine o_callp hIsFn (hat ..) ?_)) | ((first | (apply awp_cond; rfl)); all_goals (intro hc; have hp := hc; first | (simp at hp; done) | ((try simp at hp); first | (exfalso; omega) | skip))) | (apply awp_cond_any; rfl))
      all_goals try (exfalso; first | exact h (by assumption) | (simp_all; done))
      (refine f_pure (rs := [.cell 4 65, .tmp 5]) ?_; (repeat' (first | exact rzl_nil | apply rzl_cons | exact rz_pure rfl | exact rz_ex | exact z_os | apply rz_agg | apply rz_tup | apply rz_clo | apply rz_int | apply rz_bool | apply rz_str | refine z_eq ?_ | apply rz_sl)); all_goals trace_state)
end Go.Proofs.YtkkfilkmkdnboaaDoor

/- Trees in the abstract layer, 3: checkTree, check, Check, Find. -/
set_option linter.unusedSimpArgs false
set_option linter.unnecessarySimpa false
set_option maxHeartbeats 1000000
namespace Go.Proofs.YtkkfilkmkdnboaaDoor
open Go.Ab Go.RowKit
set_option maxRecDepth 10000
attribute [local irreducible] Awp Ops OpsX Wanted Red ExOk Go.Ab.Fin ACall Rz RzL RzRows Enters ResOk RenV RenVL ArgV ArgVL

theorem leq_ent (a b : Ent) : (Op.bytesLess b.path a.path || decide (b.path = a.path)) = !entLt a b := by
  unfold entLt
  rcases bl_tri a.path b.path with ⟨h1, h2, h3⟩ | ⟨h1, h2, h3⟩ | ⟨h1, h2, h3⟩
  · have h4 : ¬ b.path = a.path := fun e => h3 e.symm
    simp [h1, h2, h4]
  · simp [h1, bl_irr]
  · simp [h1, h2]
theorem treeErr_ent {t : List Ent} (h60 : ¬ 60 < t.length) {k : Nat} (hk : k < t.length) (hs : ∀ g, g ∈ t.take k → entErr g = 0) (h0 : entErr t[k] ≠ 0) : entErr t[k] = treeErr t := by
  have h1 := firstErr_at hk hs h0
  have hz : ¬ firstErr entErr t = 0 := by rw [h1]; exact h0
  simp only [treeErr, h60, hz, if_false]
  rw [h1]
theorem a_checkTree (l : List Ent) (hl : EBig l) : AFn C.P 83 [entAV l] (.v (.int .i64 (treeErr l))) := by
  have hll := hl.len
  refine acall_intro Tryd.func83 rfl _ Tryd.ntmps83 (Nat.le_of_ble_eq_true rfl) _ Tryd.results83 0 rfl rfl ?_
  repeat' (first | refine walk ?_ | fail | ((first | (apply awp_cond; rfl)); all_goals (intro hc; have hp := hc; first | (simp at hp; done) | ((try simp at hp); first | (exfalso; omega) | skip))) | (apply awp_cond_any; rfl))
  · apply fin_int
    rfl
    have h60 : 60 < l.length := by omega
    simp [treeErr, h60]
  have h60 : ¬ 60 < l.length := by omega
  (refine Awp.red (red_pure (ts := [(0, entAV l), (15, entAV l), (16, .v (.int .i64 l.length)), (17, .v (.int .i64 ((0 : Nat) : Int)))]) ?_) ?_; ((repeat (first | exact tsok_nil | refine p_pure ?_ | refine p_eq ?_ ?_))))
  all_goals try (rw [List.length_map]; done)
  refine awp_loop (fun n σ => ∃ i : Nat, i ≤ l.length ∧ n = l.length - i ∧ (∀ g, g ∈ l.take i → entErr g = 0) ∧ σ = ⟨[(0, entAV l), (15, entAV l), (16, .v (.int .i64 l.length)), (17, .v (.int .i64 (i : Int)))], [], C.nh⟩) l.length ⟨0, Nat.zero_le _, rfl, (by simp), rfl⟩ ?_
  rintro n σ ⟨i, hi, rfl, hsofar, rfl⟩
  by_cases hlt : i < l.length
  · have hr := getRow (f := Ent.row) hlt
    have hsm := hl.each l[i] (List.getElem_mem _)
    have hce := a_checkEntry l[i] hsm
    repeat' (first | refine walk ?_ | (first | (apply to_call Tryd.func106 rfl rfl; intro hIsFn; refine o_callf hIsFn (hce ..) ?_; skip)) | ((first | (apply awp_cond; rfl)); all_goals (intro hc; have hp := hc; first | (simp at hp; done) | ((try simp at hp); first | (exfalso; omega) | skip))) | (apply awp_cond_any; rfl))
    all_goals try (exfalso; omega)
    · apply fin_int
      rfl
      exact treeErr_ent h60 hlt hsofar (by assumption)
    · refine ⟨l.length - (i + 1), _, by omega, red_pure (ts := [(0, entAV l), (15, entAV l), (16, .v (.int .i64 l.length)), (17, .v (.int .i64 ((i + 1 : Nat) : Int)))]) ?_, i + 1, by omega, rfl, mem_take_succ hlt hsofar (by assumption), rfl⟩; ((repeat (first | exact tsok_nil | refine p_pure ?_ | refine p_eq ?_ ?_)))
  obtain rfl : i = l.length := by omega
  have hz : firstErr entErr l = 0 := firstErr_zero.2 (fun s hs => hsofar s (by rw [List.take_length]; exact hs))
  clear hsofar
  repeat' (first | refine walk ?_ | fail | ((first | (apply awp_cond; rfl)); all_goals (intro hc; have hp := hc; first | (simp at hp; done) | ((try simp at hp); first | (exfalso; omega) | skip))) | (apply awp_cond_any; rfl))
  all_goals try (exfalso; omega)
  (refine Awp.red (red_pure (ts := [(0, entAV l), (6, .v (.int .i64 ((0 + 1 : Nat) : Int)))]) ?_) ?_; ((repeat (first | exact tsok_nil | refine p_pure ?_ | refine p_eq ?_ ?_))))
  refine awp_loop (fun n σ => ∃ i : Nat, i ≤ (l.drop 1).length ∧ n = (l.drop 1).length - i ∧ (∀ (k : Nat) (h : k + 1 < l.length), k < i → entLt (l[k]'(by omega)) l[k + 1] = true) ∧ σ = ⟨[(0, entAV l), (6, .v (.int .i64 ((i + 1 : Nat) : Int)))], [], C.nh⟩) (l.drop 1).length ⟨0, Nat.zero_le _, rfl, (fun k h hk => absurd hk (Nat.not_lt_zero _)), rfl⟩ ?_
  have hdl : (l.drop 1).length = l.length - 1 := by simp
  rintro n σ ⟨i, hi, rfl, hsofar, rfl⟩
  by_cases hlt : i + 1 < l.length
  · have hr := getRow (f := Ent.row) hlt
    have hr' := getRow (f := Ent.row) (l := l) (i := i) (by omega)
    have hle := leq_ent l[i] l[i + 1]
    repeat' (first | refine walk ?_ | fail | ((first | (apply awp_cond; rfl)); all_goals (intro hc; have hp := hc; first | (simp at hp; done) | ((try simp at hp); first | (exfalso; omega) | skip))) | (apply awp_cond_any; rfl))
    all_goals try (exfalso; omega)
    · have hrf : ¬ rising entLt l = true := fun h => by
        have := rising_iff.1 h i hlt
        simp_all
      apply fin_int
      rfl
      simp [treeErr, h60, hz, hrf]
    · have hok : entLt l[i] l[i + 1] = true := (by simp_all)
      refine ⟨(l.drop 1).length - (i + 1), _, by omega, red_pure (ts := [(0, entAV l), (6, .v (.int .i64 ((i + 1 + 1 : Nat) : Int)))]) ?_, i + 1, by omega, rfl, (fun k h hk => by
        by_cases e : k = i
        · subst e; exact hok
        · exact hsofar k h (by omega)), rfl⟩; ((repeat (first | exact tsok_nil | refine p_pure ?_ | refine p_eq ?_ ?_)))
  have hrise : rising entLt l = true := rising_iff.2 fun k h => hsofar k h (by simp at hi; omega)
  clear hsofar
  repeat' (first | refine walk ?_ | fail | ((first | (apply awp_cond; rfl)); all_goals (intro hc; have hp := hc; first | (simp at hp; done) | ((try simp at hp); first | (exfalso; omega) | skip))) | (apply awp_cond_any; rfl))
  all_goals try (exfalso; omega)
  (refine Awp.red (red_pure (ts := [(0, entAV l), (7, .v (.int .i64 (if (l.take 0).any (fun x => decide (¬ parErr l x = 0)) = true then 4 else 0))), (45, entAV l), (46, .v (.int .i64 l.length)), (47, .v (.int .i64 ((0 : Nat) : Int)))]) ?_) ?_; ((repeat (first | exact tsok_nil | refine p_pure ?_ | refine p_eq ?_ ?_))))
  all_goals try (rw [List.length_map]; done)
  refine awp_loop (fun n σ => ∃ i : Nat, i ≤ l.length ∧ n = l.length - i ∧ (∀ g, g ∈ l.take i → ¬ parErr l g = 5) ∧ σ = ⟨[(0, entAV l), (7, .v (.int .i64 (if (l.take i).any (fun x => decide (¬ parErr l x = 0)) = true then 4 else 0))), (45, entAV l), (46, .v (.int .i64 l.length)), (47, .v (.int .i64 (i : Int)))], [], C.nh⟩) l.length ⟨0, Nat.zero_le _, rfl, (by simp), rfl⟩ ?_
  rintro n σ ⟨i, hi, rfl, hsofar, rfl⟩
  by_cases hlt : i < l.length
  · have hr := getRow (f := Ent.row) hlt
    have hsm := hl.each l[i] (List.getElem_mem _)
    have hpa := a_parentT l l[i].path hl.len hrise (by have := hsm.1; omega)
    have hpe : parErr l l[i] = _ := parEnt_err l l[i].path
    have htk := List.take_succ_eq_append_getElem hlt
    generalize parOk l l[i].path = ok at hpa hpe
    generalize parEnt l l[i].path = pe at hpa hpe
    repeat' (first | refine walk ?_ | (first | (apply to_call Tryd.func107 rfl rfl; intro hIsFn; refine o_callp hIsFn (hpa ..) ?_)) | ((first | (apply awp_cond; rfl)); all_goals (intro hc; have hp := hc; first | (simp at hp; done) | ((try simp at hp); first | (exfalso; omega) | skip))) | (apply awp_cond_any; rfl))
    all_goals try (exfalso; omega)
    · have h5 : parErr l l[i] = 5 := (by rw [hpe]; simp_all)
      have hany : l.any (fun x => decide (parErr l x = 5)) = true := List.any_eq_true.2 ⟨l[i], List.getElem_mem _, by simp [h5]⟩
      apply fin_int
      rfl
      simp [treeErr, h60, hz, hrise, hany]
    · have h4 : parErr l l[i] = 4 := (by rw [hpe]; simp_all)
      refine ⟨l.length - (i + 1), _, by omega, red_pure (ts := [(0, entAV l), (7, .v (.int .i64 (if (l.take (i + 1)).any (fun x => decide (¬ parErr l x = 0)) = true then 4 else 0))), (45, entAV l), (46, .v (.int .i64 l.length)), (47, .v (.int .i64 ((i + 1 : Nat) : Int)))]) ?_, i + 1, by omega, rfl, mem_take_succ hlt hsofar (by rw [h4]; decide), rfl⟩; ((repeat (first | exact tsok_nil | refine p_pure ?_ | refine p_eq ?_ ?_)); all_goals (rw [htk, List.any_append]; simp [h4]))
    · have h4 : parErr l l[i] = 0 := (by rw [hpe]; simp_all)
      refine ⟨l.length - (i + 1), _, by omega, red_pure (ts := [(0, entAV l), (7, .v (.int .i64 (if (l.take (i + 1)).any (fun x => decide (¬ parErr l x = 0)) = true then 4 else 0))), (45, entAV l), (46, .v (.int .i64 l.length)), (47, .v (.int .i64 ((i + 1 : Nat) : Int)))]) ?_, i + 1, by omega, rfl, mem_take_succ hlt hsofar (by rw [h4]; decide), rfl⟩; ((repeat (first | exact tsok_nil | refine p_pure ?_ | refine p_eq ?_ ?_)); all_goals (rw [htk, List.any_append]; simp [h4]))
  obtain rfl : i = l.length := by omega
  rw [List.take_length] at *
  have hno : ¬ l.any (fun x => decide (parErr l x = 5)) = true := fun h => by
    obtain ⟨x, hx, hk⟩ := List.any_eq_true.1 h
    exact hsofar x hx (by simpa using hk)
  have hE : treeErr l = if l.any (fun x => decide (¬ parErr l x = 0)) = true then 4 else 0 := by
    unfold treeErr
    rw [if_neg h60, if_pos hz, if_pos hrise, if_neg hno]
  repeat' (first | refine walk ?_ | fail | ((first | (apply awp_cond; rfl)); all_goals (intro hc; have hp := hc; first | (simp at hp; done) | ((try simp at hp); first | (exfalso; omega) | skip))) | (apply awp_cond_any; rfl))
  all_goals try (exfalso; omega)
  apply fin_int
  rfl
  exact hE.symm
end Go.Proofs.YtkkfilkmkdnboaaDoor

/- Trees in the abstract layer, 4: check, Check, Find; the reference's EntryAt, IsFolder, CheckTree. -/
set_option linter.unusedSimpArgs false
set_option linter.unnecessarySimpa false
set_option maxHeartbeats 1000000
namespace Go.Proofs.YtkkfilkmkdnboaaDoor
open Go.Ab Go.RowKit
set_option maxRecDepth 10000
attribute [local irreducible] Awp Ops OpsX Wanted Red ExOk Go.Ab.Fin ACall Rz RzL RzRows Enters ResOk RenV RenVL ArgV ArgVL

def treeRow (t : List Ent) : List AV := [entAV t]
theorem a_checkTs (ts : List (List Ent)) (hn : ts.length ≤ 1000000) (hs : ∀ t, t ∈ ts → EBig t) : AFn C.P 58 [.sl false (ts.map treeRow)] (.v (.int .i64 (firstErr treeErr ts))) := by
  refine acall_intro Tryd.func58 rfl _ Tryd.ntmps58 (Nat.le_of_ble_eq_true rfl) _ Tryd.results58 0 rfl rfl ?_
  repeat' (first | refine walk ?_ | fail | ((first | (apply awp_cond; rfl)); all_goals (intro hc; have hp := hc; first | (simp at hp; done) | ((try simp at hp); first | (exfalso; omega) | skip))) | (apply awp_cond_any; rfl))
  (refine Awp.red (red_pure (ts := [(6, .sl false (ts.map treeRow)), (7, .v (.int .i64 ts.length)), (8, .v (.int .i64 ((0 : Nat) : Int)))]) ?_) ?_; ((repeat (first | exact tsok_nil | refine p_pure ?_ | refine p_eq ?_ ?_))))
  all_goals try (rw [List.length_map]; done)
  refine awp_loop (fun n σ => ∃ i : Nat, i ≤ ts.length ∧ n = ts.length - i ∧ (∀ t, t ∈ ts.take i → treeErr t = 0) ∧ σ = ⟨[(6, .sl false (ts.map treeRow)), (7, .v (.int .i64 ts.length)), (8, .v (.int .i64 (i : Int)))], [], C.nh⟩) ts.length ⟨0, Nat.zero_le _, rfl, (by simp), rfl⟩ ?_
  rintro n σ ⟨i, hi, rfl, hsofar, rfl⟩
  by_cases hlt : i < ts.length
  · have hr := getRow (f := treeRow) hlt
    have hct := a_checkTree ts[i] (hs _ (List.getElem_mem _))
    repeat' (first | refine walk ?_ | (first | (apply to_call Tryd.func83 rfl rfl; intro hIsFn; refine o_callp hIsFn (hct ..) ?_)) | ((first | (apply awp_cond; rfl)); all_goals (intro hc; have hp := hc; first | (simp at hp; done) | ((try simp at hp); first | (exfalso; omega) | skip))) | (apply awp_cond_any; rfl))
    all_goals try (exfalso; omega)
    · apply fin_int
      rfl
      exact (firstErr_at hlt hsofar (by assumption)).symm
    · refine ⟨ts.length - (i + 1), _, by omega, red_pure (ts := [(6, .sl false (ts.map treeRow)), (7, .v (.int .i64 ts.length)), (8, .v (.int .i64 ((i + 1 : Nat) : Int)))]) ?_, i + 1, by omega, rfl, mem_take_succ hlt hsofar (by assumption), rfl⟩; ((repeat (first | exact tsok_nil | refine p_pure ?_ | refine p_eq ?_ ?_)))
  obtain rfl : i = ts.length := by omega
  have hz : firstErr treeErr ts = 0 := firstErr_zero.2 (fun s hs => hsofar s (by rw [List.take_length]; exact hs))
  clear hsofar
  repeat' (first | refine walk ?_ | fail | ((first | (apply awp_cond; rfl)); all_goals (intro hc; have hp := hc; first | (simp at hp; done) | ((try simp at hp); first | (exfalso; omega) | skip))) | (apply awp_cond_any; rfl))
  all_goals try (exfalso; omega)
  apply fin_int
  rfl
  exact hz.symm
theorem a_checkT (l : List Ent) (hl : EBig l) : AFn C.P 58 [.sl false [[entAV l]]] (.v (.int .i64 (treeErr l))) := by
  have h := a_checkTs [l] (by simp) (by simpa using hl)
  rw [show firstErr treeErr [l] = treeErr l from by simp only [firstErr]; split <;> simp_all] at h
  exact h
theorem a_tcheck (l : List Ent) (hl : EBig l) : AFn C.P 53 [entAV l] (.v (.int .i64 (treeErr l))) := by
  have h := a_checkT l hl
  refine acall_intro Tryd.func53 rfl _ Tryd.ntmps53 (Nat.le_of_ble_eq_true rfl) _ Tryd.results53 0 rfl rfl ?_
  repeat' (first | refine walk ?_ | (first | (refine o_fzl ?_) | (apply to_call Tryd.func58 rfl rfl; intro hIsFn; refine o_callp hIsFn (h ..) ?_)) | ((first | (apply awp_cond; rfl)); all_goals (intro hc; have hp := hc; first | (simp at hp; done) | ((try simp at hp); first | (exfalso; omega) | skip))) | (apply awp_cond_any; rfl))
  all_goals (apply fin_int; rfl; rfl)

theorem a_entryAt (l : List Ent) (p : Str) (hl : l.length ≤ 140737488355328) : AFn C.P 66 [entAV l, .v (str p)] (.v (.int .i64 (idxOf (atP p) l))) := by
  refine acall_intro Tryd.func66 rfl _ Tryd.ntmps66 (Nat.le_of_ble_eq_true rfl) _ Tryd.results66 0 rfl rfl ?_
  repeat' (first | refine walk ?_ | fail | ((first | (apply awp_cond; rfl)); all_goals (intro hc; have hp := hc; first | (simp at hp; done) | ((try simp at hp); first | (exfalso; omega) | skip))) | (apply awp_cond_any; rfl))
  (refine Awp.red (red_pure (ts := [(0, entAV l), (1, .v (str p)), (5, .v (.int .i64 ((0 : Nat) : Int)))]) ?_) ?_; ((repeat (first | exact tsok_nil | refine p_pure ?_ | refine p_eq ?_ ?_))))
  refine awp_loop (fun n σ => ∃ i : Nat, i ≤ l.length ∧ n = l.length - i ∧ (∀ x, x ∈ l.take i → atP p x = false) ∧ σ = ⟨[(0, entAV l), (1, .v (str p)), (5, .v (.int .i64 (i : Int)))], [], C.nh⟩) l.length ⟨0, Nat.zero_le _, rfl, (by simp), rfl⟩ ?_
  rintro n σ ⟨i, hi, rfl, hsofar, rfl⟩
  by_cases hlt : i < l.length
  · have hr := getRow (f := Ent.row) hlt
    repeat' (first | refine walk ?_ | fail | ((first | (apply awp_cond; rfl)); all_goals (intro hc; have hp := hc; first | (simp at hp; done) | ((try simp at hp); first | (exfalso; omega) | skip))) | (apply awp_cond_any; rfl))
    all_goals try (exfalso; omega)
    · apply fin_int
      rfl
      exact (idxOf_at hlt hsofar (by simp_all [atP])).symm
    · refine ⟨l.length - (i + 1), _, by omega, red_pure (ts := [(0, entAV l), (1, .v (str p)), (5, .v (.int .i64 ((i + 1 : Nat) : Int)))]) ?_, i + 1, by omega, rfl, mem_take_succ hlt hsofar (by simp_all [atP]), rfl⟩; ((repeat (first | exact tsok_nil | refine p_pure ?_ | refine p_eq ?_ ?_)))
  obtain rfl : i = l.length := by omega
  repeat' (first | refine walk ?_ | fail | ((first | (apply awp_cond; rfl)); all_goals (intro hc; have hp := hc; first | (simp at hp; done) | ((try simp at hp); first | (exfalso; omega) | skip))) | (apply awp_cond_any; rfl))
  all_goals try (exfalso; omega)
  apply fin_int
  rfl
  rw [idxOf_none fun x hx => hsofar x (by rw [List.take_length]; exact hx)]
theorem a_isFolder (l : List Ent) (p : Str) (hl : l.length ≤ 140737488355328) : AFn C.P 34 [entAV l, .v (str p)] (.v (.int .i64 (folderErr l p))) := by
  have hea := a_entryAt l p hl
  have hE : folderErr l p = if p = [] then 0 else match l.find? (atP p) with | none => 5 | some x => if x.fold = true then 0 else 4 := rfl
  generalize folderErr l p = E at *
  rcases idxOf_find (atP p) l with ⟨h1, h2⟩ | ⟨k, hk, h1, h2⟩
  · rw [h1] at hea
    rw [h2] at hE
    refine acall_intro Tryd.func34 rfl _ Tryd.ntmps34 (Nat.le_of_ble_eq_true rfl) _ Tryd.results34 0 rfl rfl ?_
    repeat' (first | refine walk ?_ | (first | (apply to_call Tryd.func66 rfl rfl; intro hIsFn; refine o_callf hIsFn (hea ..) ?_; skip)) | ((first | (apply awp_cond; rfl)); all_goals (intro hc; have hp := hc; first | (simp at hp; done) | ((try simp at hp); first | (exfalso; omega) | skip))) | (apply awp_cond_any; rfl))
    all_goals try (exfalso; omega)
    all_goals (apply fin_int; rfl; simp_all)
  · rw [h1] at hea
    rw [h2] at hE
    have hr := getRow (f := Ent.row) hk
    refine acall_intro Tryd.func34 rfl _ Tryd.ntmps34 (Nat.le_of_ble_eq_true rfl) _ Tryd.results34 0 rfl rfl ?_
    repeat' (first | refine walk ?_ | (first | (apply to_call Tryd.func66 rfl rfl; intro hIsFn; refine o_callf hIsFn (hea ..) ?_; skip)) | ((first | (apply awp_cond; rfl)); all_goals (intro hc; have hp := hc; first | (simp at hp; done) | ((try simp at hp); first | (exfalso; omega) | skip))) | (apply awp_cond_any; rfl))
    all_goals try (exfalso; omega)
    all_goals (apply fin_int; rfl; simp_all)
end Go.Proofs.YtkkfilkmkdnboaaDoor

/- Trees in the abstract layer, 5: the reference's CheckTree. -/
set_option linter.unusedSimpArgs false
set_option linter.unnecessarySimpa false
set_option maxHeartbeats 1000000
namespace Go.Proofs.YtkkfilkmkdnboaaDoor
open Go.Ab Go.RowKit
set_option maxRecDepth 10000
attribute [local irreducible] Awp Ops OpsX Wanted Red ExOk Go.Ab.Fin ACall Rz RzL RzRows Enters ResOk RenV RenVL ArgV ArgVL

theorem entErr_form {e : Ent} (h : ¬ pathErr e.path = 0) : entErr e = pathErr e.path := by simp [entErr, h]
theorem entErr_rest {e : Ent} (h : pathErr e.path = 0) : entErr e = (if e.fold = true ∧ ¬ e.text = [] then 1 else if 300 < e.text.length then 2 else if isVer e.ver = true then 0 else 3) := by simp [entErr, h]
end Go.Proofs.YtkkfilkmkdnboaaDoor

/- Changes in the abstract layer, 1: their form; may they be made? -/
set_option linter.unusedSimpArgs false
set_option linter.unnecessarySimpa false
set_option linter.unusedVariables false
set_option maxHeartbeats 1000000
namespace Go.Proofs.YtkkfilkmkdnboaaDoor
open Go.Ab Go.RowKit
set_option maxRecDepth 10000
attribute [local irreducible] Awp Ops OpsX Wanted Red ExOk Go.Ab.Fin ACall Rz RzL RzRows Enters ResOk RenV RenVL ArgV ArgVL

def chgRest (c : Chg) : Int := if (¬ c.kind = 3 ∧ ¬ c.to = []) ∨ (¬ c.kind = 2 ∧ ¬ c.text = []) then 1 else if 300 < c.text.length then 2 else if c.base < -1 ∨ 1000000 < c.base then 3 else 0
def chgErr (c : Chg) : Int :=
  if c.kind < 1 ∨ 4 < c.kind then 7
  else if ¬ pathErr c.path = 0 then pathErr c.path
  else if c.kind = 3 ∧ ¬ pathErr c.to = 0 then pathErr c.to
  else chgRest c
theorem a_form (c : Chg) (hc : c.small) : AFn C.P 100 [.agg c.row] (.v (.int .i64 (chgErr c))) := by
  obtain ⟨h1, h2, h3⟩ := hc
  have hpp := a_pcheck c.path (by omega)
  have ht := a_pcheck c.to (by omega)
  have hR : chgRest c = if (¬ c.kind = 3 ∧ ¬ c.to = []) ∨ (¬ c.kind = 2 ∧ ¬ c.text = []) then 1 else if 300 < c.text.length then 2 else if c.base < -1 ∨ 1000000 < c.base then 3 else 0 := rfl
  have hE : chgErr c = if c.kind < 1 ∨ 4 < c.kind then 7 else if ¬ pathErr c.path = 0 then pathErr c.path else if c.kind = 3 ∧ ¬ pathErr c.to = 0 then pathErr c.to else chgRest c := rfl
  generalize chgErr c = E at *
  generalize chgRest c = R at *
  generalize pathErr c.path = F at *
  generalize pathErr c.to = G at *
  refine acall_intro Tryd.func100 rfl _ Tryd.ntmps100 (Nat.le_of_ble_eq_true rfl) _ Tryd.results100 0 rfl rfl ?_
  repeat' (first | refine walk ?_ | (first | (apply to_call Tryd.func59 rfl rfl; intro hIsFn; refine o_callf hIsFn (hpp ..) ?_; skip) | (apply to_call Tryd.func59 rfl rfl; intro hIsFn; refine o_callf hIsFn (ht ..) ?_; skip)) | ((first | (apply ops_split_t; rfl; rfl; exact nle rfl) | (apply ops_split_f; rfl; rfl; exact nle rfl) | (apply awp_cond; rfl)); all_goals (intro hc; have hp := hc; first | (simp at hp; done) | ((try simp at hp); first | (exfalso; omega) | skip))) | (apply awp_cond_any; rfl))
  all_goals try (exfalso; omega)
  all_goals (apply fin_int; rfl)
  all_goals (rw [hE])
  all_goals first
    | (rw [if_pos (by omega)]; done)
    | (rw [if_neg (by omega)]
       first
       | (rw [if_pos (by assumption)]; done)
       | (rw [if_neg (by omega)]
          first
          | (rw [if_pos ⟨by assumption, by assumption⟩]; done)
          | (rw [if_neg (by rintro ⟨_, _⟩; simp_all), hR]
             first
             | (rw [if_pos (by simp_all)]; done)
             | (rw [if_neg (by simp_all)]
                first
                | (rw [if_pos (by omega)]; done)
                | (rw [if_neg (by omega)]
                   first
                   | (rw [if_pos (by omega)]; done)
                   | (rw [if_neg (by omega)]; done))))))
end Go.Proofs.YtkkfilkmkdnboaaDoor
