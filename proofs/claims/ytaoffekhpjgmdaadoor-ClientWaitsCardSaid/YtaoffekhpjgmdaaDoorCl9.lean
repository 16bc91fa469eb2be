/- Clients: a client that has sent is right, and sends the same again; the law ClientWaits. -/
import Derived.Test.YtaoffekhpjgmdaaDoorCl8
set_option linter.unusedSimpArgs false
set_option linter.unnecessarySimpa false
set_option linter.unusedVariables false
set_option maxHeartbeats 1000000
namespace Go.Proofs.YtaoffekhpjgmdaaDoor
open Go.Ab Go.RowKit
set_option maxRecDepth 10000
attribute [local irreducible] Awp Ops OpsX Wanted Red ExOk Go.Ab.Fin ACall Rz RzL RzRows Enters ResOk RenV RenVL ArgV ArgVL

theorem keyB_dig {k : Nat} (h : k < 10) : keyB (UInt8.ofNat (48 + k)) = true := by
  unfold keyB keyN
  have : (UInt8.ofNat (48 + k)).toNat = 48 + k := by simp [UInt8.toNat_ofNat']; omega
  rw [this]
  simp
  omega
theorem dig_key (k : Nat) : (Lib.decDigits k).all keyB = true := by
  induction k using Nat.strongRecOn with
  | _ k ih =>
    by_cases h : k < 10
    · rw [dig_small h]; simp only [List.all_cons, List.all_nil, Bool.and_true]; exact keyB_dig h
    · rw [dig_big h, List.all_append, ih (k / 10) (by omega)]
      simp only [List.all_cons, List.all_nil, Bool.and_true, Bool.true_and]; exact keyB_dig (by omega)
theorem dig_pow : ∀ (n k : Nat), k < 10 ^ (n + 1) → (Lib.decDigits k).length ≤ n + 1
  | 0, k, h => by rw [dig_small (by simpa using h)]; simp
  | n + 1, k, h => by
    by_cases h10 : k < 10
    · rw [dig_small h10]; simp
    · rw [dig_big h10, List.length_append]
      have := dig_pow n (k / 10) (by rw [Nat.pow_succ] at h; omega)
      simp
      omega
theorem sendC_key {c : Cli} (hR : CRight c) : isKey (c.who ++ [45] ++ Lib.itoa (c.keys + 1)) = true := by
  have hk := hR.keys
  obtain ⟨k, hkk⟩ : ∃ k : Nat, c.keys + 1 = (k : Int) := ⟨(c.keys + 1).toNat, by omega⟩
  rw [hkk, itoa_nat]
  have h1 := dig_pow 6 k (by omega)
  have h2 := hR.lwho
  have h3 := hR.kwho
  unfold isKey at h3 ⊢
  simp only [Bool.and_eq_true, decide_eq_true_eq] at h3
  simp only [List.all_append, h3.2, dig_key, Bool.and_eq_true, decide_eq_true_eq, List.length_append, List.length_singleton]
  refine ⟨⟨by omega, by omega⟩, ⟨trivial, by decide⟩, trivial⟩
theorem sendC_right {c : Cli} (hR : CRight c) (hd : ¬ rawD c.base c.mine = []) (hm : ¬ c.keys = 1000000) : CRight (sendC c) := by
  have hk := hR.keys
  refine ⟨hR.nwho, hR.nfolder, hR.kwho, hR.lwho, hR.base, hR.mine, hR.cur, ⟨by show 0 ≤ c.keys + 1; omega, by show c.keys + 1 ≤ _; omega⟩, .inr (sendC_key hR), ?_, ?_⟩
  · show c.who ++ [45] ++ Lib.itoa (c.keys + 1) = [] ↔ sendL c = []
    constructor
    · intro h; simp at h
    · intro h
      unfold sendL at h
      rw [List.map_eq_nil_iff, List.take_eq_nil_iff] at h
      rcases h with h | h
      · cases h
      · exact absurd h hd
  · show (sendL c).length ≤ 20
    unfold sendL
    simp
    omega
theorem sendW_again {c : Cli} (hR : CRight c) (h : (sendW c).2.2.2 = 0) : CRight (sendW c).1 ∧ sendW (sendW c).1 = sendW c := by
  by_cases hk : c.key = []
  · by_cases hd : rawD c.base c.mine = []
    · have hW : sendW c = (c, noRqt, false, 0) := by unfold sendW; rw [if_pos hk, if_pos hd]
      rw [hW]
      exact ⟨hR, hW⟩
    · by_cases hm : c.keys = 1000000
      · have hW : sendW c = (noCli, noRqt, false, 3) := by unfold sendW; rw [if_pos hk, if_neg hd, if_pos hm]
        rw [hW] at h; cases h
      · have hW : sendW c = (sendC c, askR (sendC c), true, 0) := by unfold sendW; rw [if_pos hk, if_neg hd, if_neg hm]
        rw [hW]
        refine ⟨sendC_right hR hd hm, ?_⟩
        show sendW (sendC c) = _
        have hne : ¬ (sendC c).key = [] := by show ¬ c.who ++ [45] ++ Lib.itoa (c.keys + 1) = []; simp
        unfold sendW
        rw [if_neg hne]
  · have hW : sendW c = (c, askR c, true, 0) := by unfold sendW; rw [if_neg hk]
    rw [hW]
    exact ⟨hR, hW⟩
theorem law_cwaits (c : Cli) (hb : CliBig c) : AFn C.P 3 [.agg c.row] (.v (.bool true)) := by
  have h1 := a_send c hb
  by_cases hz : cliErr c = 0
  · have hR := cright_iff.1 hz
    have hE : sendR c = sendW c := by unfold sendR; rw [if_neg (by simp [hz])]
    have hBR := sendW_big hb hR
    rw [hE] at h1
    by_cases hez : (sendW c).2.2.2 = 0
    · obtain ⟨hR2, hag⟩ := sendW_again hR hez
      have h2 := a_send (sendW c).1 hBR.1
      have hE2 : sendR (sendW c).1 = sendW c := by unfold sendR; rw [if_neg (by simp [cright_iff.2 hR2])]; exact hag
      rw [hE2] at h2
      clear hag hE hE2
      generalize sendW c = R at *
      obtain ⟨r, q, ok, e⟩ := R
      simp only at hez
      subst hez
      have h5 := a_sameCli r r hBR.1.base.len hBR.1.base.len hBR.1.mine.len hBR.1.mine.len hBR.1.asked.len hBR.1.asked.len
      rw [decide_eq_true rfl] at h5
      have h6 := a_sameRqt q q hBR.2 hBR.2
      rw [decide_eq_true rfl] at h6
      clear hBR hR2
      refine acall_intro Tryd.func3 rfl _ Tryd.ntmps3 (Nat.le_of_ble_eq_true rfl) _ Tryd.results3 0 rfl rfl ?_
      repeat' (first | refine walk ?_ | (first | (apply to_call Tryd.func5 rfl rfl; intro hIsFn; refine o_callf hIsFn (a_cbegun ..) ?_; skip) | (apply to_call Tryd.func6 rfl rfl; intro hIsFn; refine o_callp hIsFn (h1 ..) ?_) | (apply to_call Tryd.func6 rfl rfl; intro hIsFn; refine o_callp hIsFn (h2 ..) ?_) | (apply to_call Tryd.func8 rfl rfl; intro hIsFn; refine o_callf hIsFn (h5 ..) ?_; skip) | (apply to_call Tryd.func7 rfl rfl; intro hIsFn; refine o_callf hIsFn (h6 ..) ?_; skip) | (refine o_beq ?_)) | ((first | (apply ops_split_t; rfl; rfl; exact nle rfl) | (apply ops_split_f; rfl; rfl; exact nle rfl) | (apply awp_cond; rfl)); all_goals (intro hc; have hp := hc; first | (simp at hp; done) | ((try simp at hp); first | (exfalso; omega) | skip))) | (apply awp_cond_any; rfl))
      all_goals try (exfalso; first | omega | (simp_all; done))
      all_goals (apply fin_bool; rfl; simp_all; done)
    · generalize sendW c = R at *
      obtain ⟨r, q, ok, e⟩ := R
      simp only at hez
      clear hBR hE
      refine acall_intro Tryd.func3 rfl _ Tryd.ntmps3 (Nat.le_of_ble_eq_true rfl) _ Tryd.results3 0 rfl rfl ?_
      repeat' (first | refine walk ?_ | (first | (apply to_call Tryd.func5 rfl rfl; intro hIsFn; refine o_callf hIsFn (a_cbegun ..) ?_; skip) | (apply to_call Tryd.func6 rfl rfl; intro hIsFn; refine o_callp hIsFn (h1 ..) ?_)) | ((first | (apply ops_split_t; rfl; rfl; exact nle rfl) | (apply ops_split_f; rfl; rfl; exact nle rfl) | (apply awp_cond; rfl)); all_goals (intro hc; have hp := hc; first | (simp at hp; done) | ((try simp at hp); first | (exfalso; omega) | skip))) | (apply awp_cond_any; rfl))
      all_goals try (exfalso; first | omega | (simp_all; done))
      all_goals (apply fin_bool; rfl; rfl)
  · have hE : sendR c = (noCli, noRqt, false, cliErr c) := by unfold sendR; rw [if_pos hz]
    rw [hE] at h1
    generalize cliErr c = E at *
    clear hE
    refine acall_intro Tryd.func3 rfl _ Tryd.ntmps3 (Nat.le_of_ble_eq_true rfl) _ Tryd.results3 0 rfl rfl ?_
    repeat' (first | refine walk ?_ | (first | (apply to_call Tryd.func5 rfl rfl; intro hIsFn; refine o_callf hIsFn (a_cbegun ..) ?_; skip) | (apply to_call Tryd.func6 rfl rfl; intro hIsFn; refine o_callp hIsFn (h1 ..) ?_)) | ((first | (apply ops_split_t; rfl; rfl; exact nle rfl) | (apply ops_split_f; rfl; rfl; exact nle rfl) | (apply awp_cond; rfl)); all_goals (intro hc; have hp := hc; first | (simp at hp; done) | ((try simp at hp); first | (exfalso; omega) | skip))) | (apply awp_cond_any; rfl))
    all_goals try (exfalso; first | omega | (simp_all; done))
    all_goals (apply fin_bool; rfl; rfl)
theorem law_cwaits_all (ys : List AV) (h : TyAllW C.tab 140737488355328 [25] ys) : AFn C.P 3 ys (.v (.bool true)) := by
  obtain ⟨_, _, rfl, h0, rfl⟩ := h
  obtain ⟨c, rfl, hc⟩ := tyv_cli h0
  exact law_cwaits c hc
end Go.Proofs.YtaoffekhpjgmdaaDoor
