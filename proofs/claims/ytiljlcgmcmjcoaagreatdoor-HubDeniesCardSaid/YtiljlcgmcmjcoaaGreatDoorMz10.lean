import Derived.Test.YtiljlcgmcmjcoaaGreatDoorMz9
import Derived.Test.YtiljlcgmcmjcoaaGreatDoorMz2
/- Trees in the abstract layer, 4: check, Check, Find; the reference's EntryAt, IsFolder, CheckTree. -/
set_option linter.unusedSimpArgs false
set_option linter.unnecessarySimpa false
set_option maxHeartbeats 1000000
namespace Go.Proofs.YtiljlcgmcmjcoaaGreatDoor
open Go.Ab Go.RowKit
set_option maxRecDepth 10000
attribute [local irreducible] Awp Ops OpsX Wanted Red ExOk Go.Ab.Fin ACall Rz RzL RzRows Enters ResOk RenV RenVL ArgV ArgVL

def treeRow (t : List Ent) : List AV := [entAV t]
theorem a_checkTs (ts : List (List Ent)) (hn : ts.length ≤ 1000000) (hs : ∀ t, t ∈ ts → EBig t) : AFn C.P 65 [.sl false (ts.map treeRow)] (.v (.int .i64 (firstErr treeErr ts))) := by
  refine acall_intro Tryz.func65 rfl _ Tryz.ntmps65 (Nat.le_of_ble_eq_true rfl) _ Tryz.results65 0 rfl rfl ?_
  repeat' (first | refine walk ?_ | fail | ((first | (apply awp_cond; rfl)); all_goals (intro hc; have hp := hc; first | (simp at hp; done) | ((try simp at hp); first | (exfalso; omega) | skip))) | (apply awp_cond_any; rfl))
  (refine Awp.red (red_pure (ts := [(6, .sl false (ts.map treeRow)), (7, .v (.int .i64 ts.length)), (8, .v (.int .i64 ((0 : Nat) : Int)))]) ?_) ?_; ((repeat (first | exact tsok_nil | refine p_pure ?_ | refine p_eq ?_ ?_))))
  all_goals try (rw [List.length_map]; done)
  refine awp_loop (fun n σ => ∃ i : Nat, i ≤ ts.length ∧ n = ts.length - i ∧ (∀ t, t ∈ ts.take i → treeErr t = 0) ∧ σ = ⟨[(6, .sl false (ts.map treeRow)), (7, .v (.int .i64 ts.length)), (8, .v (.int .i64 (i : Int)))], [], C.nh⟩) ts.length ⟨0, Nat.zero_le _, rfl, (by simp), rfl⟩ ?_
  rintro n σ ⟨i, hi, rfl, hsofar, rfl⟩
  by_cases hlt : i < ts.length
  · have hr := getRow (f := treeRow) hlt
    have hct := a_checkTree ts[i] (hs _ (List.getElem_mem _))
    repeat' (first | refine walk ?_ | (first | (apply to_call Tryz.func111 rfl rfl; intro hIsFn; refine o_callp hIsFn (hct ..) ?_)) | ((first | (apply awp_cond; rfl)); all_goals (intro hc; have hp := hc; first | (simp at hp; done) | ((try simp at hp); first | (exfalso; omega) | skip))) | (apply awp_cond_any; rfl))
    all_goals try (exfalso; omega)
    · apply fin_int
      rfl
      exact (firstErr_at hlt hsofar (by assumption)).symm
    · refine ⟨ts.length - (i + 1), _, by omega, red_pure (ts := [(6, .sl false (ts.map treeRow)), (7, .v (.int .i64 ts.length)), (8, .v (.int .i64 ((i + 1 : Nat) : Int)))]) ?_, i + 1, by omega, rfl, mem_take_succ hlt hsofar (by assumption), rfl⟩; ((repeat (first | exact tsok_nil | refine p_pure ?_ | refine p_eq ?_ ?_)))
  obtain rfl : i = ts.length := by omega
  have hz : firstErr treeErr ts = 0 := firstErr_zero.2 (fun s hs => hsofar s (by rw [List.take_length]; exact hs))
  clear hsofar
  repeat' (first | refine walk ?_ | fail | ((first | (apply awp_cond; rfl)); all_goals (intro hc; have hp := hc; first | (simp at hp; done) | ((try simp at hp); first | (exfalso; omega) | skip))) | (apply awp_cond_any; rfl))
  all_goals try (exfalso; omega)
  apply fin_int
  rfl
  exact hz.symm
theorem a_checkT (l : List Ent) (hl : EBig l) : AFn C.P 65 [.sl false [[entAV l]]] (.v (.int .i64 (treeErr l))) := by
  have h := a_checkTs [l] (by simp) (by simpa using hl)
  rw [show firstErr treeErr [l] = treeErr l from by simp only [firstErr]; split <;> simp_all] at h
  exact h
theorem a_tcheck (l : List Ent) (hl : EBig l) : AFn C.P 117 [entAV l] (.v (.int .i64 (treeErr l))) := by
  have h := a_checkT l hl
  refine acall_intro Tryz.func117 rfl _ Tryz.ntmps117 (Nat.le_of_ble_eq_true rfl) _ Tryz.results117 0 rfl rfl ?_
  repeat' (first | refine walk ?_ | (first | (refine o_fzl ?_) | (apply to_call Tryz.func65 rfl rfl; intro hIsFn; refine o_callp hIsFn (h ..) ?_)) | ((first | (apply awp_cond; rfl)); all_goals (intro hc; have hp := hc; first | (simp at hp; done) | ((try simp at hp); first | (exfalso; omega) | skip))) | (apply awp_cond_any; rfl))
  all_goals (apply fin_int; rfl; rfl)

end Go.Proofs.YtiljlcgmcmjcoaaGreatDoor

/- Trees in the abstract layer, 5: the reference's CheckTree. -/
set_option linter.unusedSimpArgs false
set_option linter.unnecessarySimpa false
set_option maxHeartbeats 1000000
namespace Go.Proofs.YtiljlcgmcmjcoaaGreatDoor
open Go.Ab Go.RowKit
set_option maxRecDepth 10000
attribute [local irreducible] Awp Ops OpsX Wanted Red ExOk Go.Ab.Fin ACall Rz RzL RzRows Enters ResOk RenV RenVL ArgV ArgVL

end Go.Proofs.YtiljlcgmcmjcoaaGreatDoor

/- Changes in the abstract layer, 1: their form; may they be made? -/
set_option linter.unusedSimpArgs false
set_option linter.unnecessarySimpa false
set_option linter.unusedVariables false
set_option maxHeartbeats 1000000
namespace Go.Proofs.YtiljlcgmcmjcoaaGreatDoor
open Go.Ab Go.RowKit
set_option maxRecDepth 10000
attribute [local irreducible] Awp Ops OpsX Wanted Red ExOk Go.Ab.Fin ACall Rz RzL RzRows Enters ResOk RenV RenVL ArgV ArgVL

def chgRest (c : Chg) : Int := if (¬ c.kind = 3 ∧ ¬ c.to = []) ∨ (¬ c.kind = 2 ∧ ¬ c.text = []) then 1 else if 300 < c.text.length then 2 else if c.base < -1 ∨ 1000000 < c.base then 3 else 0
def chgErr (c : Chg) : Int :=
  if c.kind < 1 ∨ 4 < c.kind then 7
  else if ¬ pathErr c.path = 0 then pathErr c.path
  else if c.kind = 3 ∧ ¬ pathErr c.to = 0 then pathErr c.to
  else chgRest c
theorem a_form (c : Chg) (hc : c.small) : AFn C.P 173 [.agg c.row] (.v (.int .i64 (chgErr c))) := by
  obtain ⟨h1, h2, h3⟩ := hc
  have hpp := a_pcheck c.path (by omega)
  have ht := a_pcheck c.to (by omega)
  have hR : chgRest c = if (¬ c.kind = 3 ∧ ¬ c.to = []) ∨ (¬ c.kind = 2 ∧ ¬ c.text = []) then 1 else if 300 < c.text.length then 2 else if c.base < -1 ∨ 1000000 < c.base then 3 else 0 := rfl
  have hE : chgErr c = if c.kind < 1 ∨ 4 < c.kind then 7 else if ¬ pathErr c.path = 0 then pathErr c.path else if c.kind = 3 ∧ ¬ pathErr c.to = 0 then pathErr c.to else chgRest c := rfl
  generalize chgErr c = E at *
  generalize chgRest c = R at *
  generalize pathErr c.path = F at *
  generalize pathErr c.to = G at *
  refine acall_intro Tryz.func173 rfl _ Tryz.ntmps173 (Nat.le_of_ble_eq_true rfl) _ Tryz.results173 0 rfl rfl ?_
  repeat' (first | refine walk ?_ | (first | (apply to_call Tryz.func66 rfl rfl; intro hIsFn; refine o_callf hIsFn (hpp ..) ?_; skip) | (apply to_call Tryz.func66 rfl rfl; intro hIsFn; refine o_callf hIsFn (ht ..) ?_; skip)) | ((first | (apply ops_split_t; rfl; rfl; exact nle rfl) | (apply ops_split_f; rfl; rfl; exact nle rfl) | (apply awp_cond; rfl)); all_goals (intro hc; have hp := hc; first | (simp at hp; done) | ((try simp at hp); first | (exfalso; omega) | skip))) | (apply awp_cond_any; rfl))
  all_goals try (exfalso; omega)
  all_goals (apply fin_int; rfl)
  all_goals (rw [hE])
  all_goals first
    | (rw [if_pos (by omega)]; done)
    | (rw [if_neg (by omega)]
       first
       | (rw [if_pos (by assumption)]; done)
       | (rw [if_neg (by omega)]
          first
          | (rw [if_pos ⟨by assumption, by assumption⟩]; done)
          | (rw [if_neg (by rintro ⟨_, _⟩; simp_all), hR]
             first
             | (rw [if_pos (by simp_all)]; done)
             | (rw [if_neg (by simp_all)]
                first
                | (rw [if_pos (by omega)]; done)
                | (rw [if_neg (by omega)]
                   first
                   | (rw [if_pos (by omega)]; done)
                   | (rw [if_neg (by omega)]; done))))))
end Go.Proofs.YtiljlcgmcmjcoaaGreatDoor

/- Changes in the abstract layer, 2: may one be made? -/
set_option linter.unusedSimpArgs false
set_option linter.unnecessarySimpa false
set_option linter.unusedVariables false
set_option maxHeartbeats 1000000
namespace Go.Proofs.YtiljlcgmcmjcoaaGreatDoor
open Go.Ab Go.RowKit
set_option maxRecDepth 10000
attribute [local irreducible] Awp Ops OpsX Wanted Red ExOk Go.Ab.Fin ACall Rz RzL RzRows Enters ResOk RenV RenVL ArgV ArgVL

theorem a_indexE (p : Ent → Bool) (g : FuncId) (hg : IsFn C.P g) (cap : List AV) (hcap : AV.pure.pureL cap = true) (l : List (Ent)) (hl : l.length ≤ 1000000) (hc : ∀ s, s ∈ l → AFn C.P g ((AV.agg (Ent.row s)) :: cap) (.v (.bool (p s)))) :
    AFn C.P 198 [.sl false (l.map Ent.row), .clo (.func g) [] cap] (.v (.int .i64 (idxOf p l))) := by
  refine acall_intro Tryz.func198 rfl _ Tryz.ntmps198 (Nat.le_of_ble_eq_true rfl) _ Tryz.results198 0 rfl rfl ?_
  repeat' (first | refine walk ?_ | fail | ((first | (apply awp_cond; rfl)); all_goals (intro hc; have hp := hc; first | (simp at hp; done) | ((try simp at hp); first | (exfalso; omega) | skip))) | (apply awp_cond_any; rfl))
  (refine Awp.red (red_pure (ts := [(0, .sl false (l.map Ent.row)), (1, .clo (.func g) [] cap), (7, .v (.int .i64 l.length)), (8, .v (.int .i64 ((0 : Nat) : Int)))]) ?_) ?_; ((repeat (first | exact tsok_nil | refine p_pure ?_ | refine p_eq ?_ ?_))))
  all_goals try (rw [List.length_map]; done)
  refine awp_loop (fun n σ => ∃ i : Nat, i ≤ l.length ∧ n = l.length - i ∧ (∀ s, s ∈ l.take i → p s = false) ∧ σ = ⟨[(0, .sl false (l.map Ent.row)), (1, .clo (.func g) [] cap), (7, .v (.int .i64 l.length)), (8, .v (.int .i64 (i : Int)))], [], C.nh⟩) l.length ⟨0, Nat.zero_le _, rfl, (by simp), rfl⟩ ?_
  rintro n σ ⟨i, hi, rfl, hsofar, rfl⟩
  by_cases hlt : i < l.length
  · have hr := getRow (f := Ent.row) hlt
    have hci := hc l[i] (List.getElem_mem _)
    repeat' (first | refine walk ?_ | (first | (apply opsx_val; apply ex_callv []; rfl; exact hg; exact hci; (case hz => exact rzl_cons (rz_pure rfl) (rzl_self hcap)); (case hfl => rfl); (case hN => exact nle rfl))) | ((first | (apply awp_cond; rfl)); all_goals (intro hc; have hp := hc; first | (simp at hp; done) | ((try simp at hp); first | (exfalso; omega) | skip))) | (apply awp_cond_any; rfl))
    all_goals try (exfalso; omega)
    · apply fin_int
      rfl
      exact (idxOf_at hlt hsofar hp).symm
    · refine ⟨l.length - (i + 1), _, by omega, red_pure (ts := [(0, .sl false (l.map Ent.row)), (1, .clo (.func g) [] cap), (7, .v (.int .i64 l.length)), (8, .v (.int .i64 ((i + 1 : Nat) : Int)))]) ?_, i + 1, by omega, rfl, mem_take_succ hlt hsofar hp, rfl⟩; ((repeat (first | exact tsok_nil | refine p_pure ?_ | refine p_eq ?_ ?_)))
  obtain rfl : i = l.length := by omega
  repeat' (first | refine walk ?_ | fail | ((first | (apply awp_cond; rfl)); all_goals (intro hc; have hp := hc; first | (simp at hp; done) | ((try simp at hp); first | (exfalso; omega) | skip))) | (apply awp_cond_any; rfl))
  all_goals try (exfalso; omega)
  apply fin_int
  rfl
  exact (idxOf_none fun s hs => hsofar s (by rw [List.take_length]; exact hs)).symm
theorem a_containsE (p : Ent → Bool) (g : FuncId) (hg : IsFn C.P g) (cap : List AV) (hcap : AV.pure.pureL cap = true) (l : List (Ent)) (hl : l.length ≤ 1000000) (hc : ∀ s, s ∈ l → AFn C.P g ((AV.agg (Ent.row s)) :: cap) (.v (.bool (p s)))) :
    AFn C.P 188 [.sl false (l.map Ent.row), .clo (.func g) [] cap] (.v (.bool (l.any p))) := by
  have hidx := a_indexE p g hg cap hcap l hl hc
  refine acall_intro Tryz.func188 rfl _ Tryz.ntmps188 (Nat.le_of_ble_eq_true rfl) _ Tryz.results188 0 rfl rfl ?_
  repeat' (first | refine walk ?_ | (first | (apply opsx_val; apply ex_call []; exact isFn_of Tryz.func198 rfl rfl; exact hidx; (case hz => exact rzl_cons (rz_pure rfl) (rzl_cons (rz_clo_pure hcap) rzl_nil)); (case hfl => rfl); (case hN => exact nle rfl))) | ((first | (apply awp_cond; rfl)); all_goals (intro hc; have hp := hc; first | (simp at hp; done) | ((try simp at hp); first | (exfalso; omega) | skip))) | (apply awp_cond_any; rfl))
  apply fin_bool
  rfl
  rw [← idxOf_any]
def goalOf (c : Chg) : Str := if c.kind = 3 then c.to else c.path
def newer (c : Chg) (x : Ent) : Bool := decide (c.base < x.ver) && inB x.path c.path
def foldAt (t : List Ent) (p : Str) : Bool := match t.find? (atP p) with | some x => x.fold | none => false
def isErr (t : List Ent) (c : Chg) : Int := if c.kind = 1 then (if hitE t c.path = true then 6 else 0) else if c.kind = 2 then (if foldAt t c.path = true then 4 else 0) else (if hitE t c.path = true then 0 else 5)
def mvErr (t : List Ent) (c : Chg) : Int := if c.kind = 3 then (if inB c.to c.path = true then 3 else if hitE t c.to = true then 6 else 0) else 0
def staleErr (t : List Ent) (c : Chg) : Int := if ¬ c.base = -1 ∧ t.any (newer c) = true then 8 else 0
def mayErr (t : List Ent) (c : Chg) : Int :=
  if ¬ folderErr t (parentOf (goalOf c)) = 0 then folderErr t (parentOf (goalOf c))
  else if ¬ isErr t c = 0 then isErr t c
  else if ¬ mvErr t c = 0 then mvErr t c else staleErr t c
theorem a_mayC (x : Ent) (c : Chg) (hc : c.path.length ≤ 140737488355328) : AFn C.P 187 [.agg x.row, .fp [c.row] 0 0] (.v (.bool (newer c x))) := by
  have hin := a_in x.path c.path hc
  have hE : newer c x = (decide (c.base < x.ver) && inB x.path c.path) := rfl
  generalize newer c x = E at *
  generalize inB x.path c.path = I at *
  refine acall_intro Tryz.func187 rfl _ Tryz.ntmps187 (Nat.le_of_ble_eq_true rfl) _ Tryz.results187 0 rfl rfl ?_
  repeat' (first | refine walk ?_ | (first | (apply to_call Tryz.func186 rfl rfl; intro hIsFn; refine o_callf hIsFn (hin ..) ?_; skip)) | ((first | (apply ops_split_t; rfl; rfl; exact nle rfl) | (apply ops_split_f; rfl; rfl; exact nle rfl) | (apply awp_cond; rfl)); all_goals (intro hc; have hp := hc; first | (simp at hp; done) | ((try simp at hp); first | (exfalso; omega) | skip))) | (apply awp_cond_any; rfl))
  all_goals (apply fin_bool; rfl; rw [hE]; simp_all; try (intro _; omega))
theorem a_may (t : List Ent) (c : Chg) (hl : t.length ≤ 1000000) (hs : rising entLt t = true) (hcs : c.small) : AFn C.P 174 [entAV t, .agg c.row] (.v (.int .i64 (mayErr t c))) := by
  obtain ⟨l1, l2, l3⟩ := hcs
  have hpa := a_parentT t (goalOf c) (by omega) hs (by unfold goalOf; split <;> omega)
  have hfe := parEnt_err t (goalOf c)
  have hat := a_at t c.path (by omega) hs
  have hat2 := a_at t c.to (by omega) hs
  have hin := a_in c.to c.path (by omega)
  have hcon := a_containsE (newer c) 187 (isFn_of Tryz.func187 rfl rfl) [.fp [c.row] 0 0] rfl t hl (fun x _ => a_mayC x c (by omega))
  have hE : mayErr t c = if ¬ folderErr t (parentOf (goalOf c)) = 0 then folderErr t (parentOf (goalOf c)) else if ¬ isErr t c = 0 then isErr t c else if ¬ mvErr t c = 0 then mvErr t c else staleErr t c := rfl
  have hI : isErr t c = if c.kind = 1 then (if hitE t c.path = true then 6 else 0) else if c.kind = 2 then (if foldAt t c.path = true then 4 else 0) else (if hitE t c.path = true then 0 else 5) := rfl
  have hM : mvErr t c = if c.kind = 3 then (if inB c.to c.path = true then 3 else if hitE t c.to = true then 6 else 0) else 0 := rfl
  have hS : staleErr t c = if ¬ c.base = -1 ∧ t.any (newer c) = true then 8 else 0 := rfl
  have hrow : hitE t c.path = true → ∃ hk : posE t c.path < t.length, foldAt t c.path = t[posE t c.path].fold := fun h => by
    obtain ⟨hk, _, hfi, _⟩ := hitE_at hs h
    exact ⟨hk, by unfold foldAt; rw [hfi]⟩
  have hnorow : hitE t c.path = false → foldAt t c.path = false := fun h => by
    unfold foldAt; rw [(hitE_none h).1]
  have hg3 : c.kind = 3 → goalOf c = c.to := fun h => by simp [goalOf, h]
  have hg0 : ¬ c.kind = 3 → goalOf c = c.path := fun h => by simp [goalOf, h]
  generalize mayErr t c = E at *
  generalize isErr t c = I at *
  generalize mvErr t c = Mv at *
  generalize staleErr t c = S at *
  generalize t.any (newer c) = NW at *
  generalize inB c.to c.path = IB at *
  generalize hitE t c.to = HT at *
  generalize posE t c.to = PT at *
  generalize folderErr t (parentOf (goalOf c)) = FE at *
  generalize parOk t (goalOf c) = OK at *
  generalize parEnt t (goalOf c) = PE at *
  cases hh : hitE t c.path with
  | true =>
    obtain ⟨hk, hfo⟩ := hrow hh
    rw [hh] at hat hI
    rw [hfo] at hI
    have hr := getRow (f := Ent.row) hk
    clear hrow hnorow
    generalize posE t c.path = k at *
    by_cases k3 : c.kind = 3
    · rw [hg3 k3] at hpa
      refine acall_intro Tryz.func174 rfl _ Tryz.ntmps174 (Nat.le_of_ble_eq_true rfl) _ Tryz.results174 0 rfl rfl ?_
      repeat' (first | refine walk ?_ | (first | (apply to_call Tryz.func141 rfl rfl; intro hIsFn; refine o_callp hIsFn (hpa ..) ?_) | (apply to_call Tryz.func67 rfl rfl; intro hIsFn; refine o_callp hIsFn (hat ..) ?_) | (apply to_call Tryz.func67 rfl rfl; intro hIsFn; refine o_callp hIsFn (hat2 ..) ?_) | (apply to_call Tryz.func186 rfl rfl; intro hIsFn; refine o_callf hIsFn (hin ..) ?_; skip) | (apply opsx_val; apply ex_call ([0]); exact isFn_of Tryz.func188 rfl rfl; exact hcon; (case hz => (refine rzl_cons (rz_pure rfl) (rzl_cons (rz_clo rzl_nil (rzl_cons (rz_op rfl (by simp) (rzrows_pure (fun row hrow => by rw [List.mem_singleton.1 hrow]; rfl))) rzl_nil)) rzl_nil))); (case hfl => rfl); (case hN => exact nle rfl))) | ((first | (apply ops_split_t; rfl; rfl; exact nle rfl) | (apply ops_split_f; rfl; rfl; exact nle rfl) | (apply awp_cond; rfl)); all_goals (intro hc; have hp := hc; first | (simp at hp; done) | ((try simp at hp); first | (exfalso; omega) | skip))) | (apply awp_cond_any; rfl))
      all_goals try (exfalso; omega)
      all_goals (apply fin_int; rfl; clear hat hat2 hcon hpa hin; simp_all)
    · rw [hg0 k3] at hpa
      refine acall_intro Tryz.func174 rfl _ Tryz.ntmps174 (Nat.le_of_ble_eq_true rfl) _ Tryz.results174 0 rfl rfl ?_
      repeat' (first | refine walk ?_ | (first | (apply to_call Tryz.func141 rfl rfl; intro hIsFn; refine o_callp hIsFn (hpa ..) ?_) | (apply to_call Tryz.func67 rfl rfl; intro hIsFn; refine o_callp hIsFn (hat ..) ?_) | (apply to_call Tryz.func67 rfl rfl; intro hIsFn; refine o_callp hIsFn (hat2 ..) ?_) | (apply to_call Tryz.func186 rfl rfl; intro hIsFn; refine o_callf hIsFn (hin ..) ?_; skip) | (apply opsx_val; apply ex_call ([0]); exact isFn_of Tryz.func188 rfl rfl; exact hcon; (case hz => (refine rzl_cons (rz_pure rfl) (rzl_cons (rz_clo rzl_nil (rzl_cons (rz_op rfl (by simp) (rzrows_pure (fun row hrow => by rw [List.mem_singleton.1 hrow]; rfl))) rzl_nil)) rzl_nil))); (case hfl => rfl); (case hN => exact nle rfl))) | ((first | (apply ops_split_t; rfl; rfl; exact nle rfl) | (apply ops_split_f; rfl; rfl; exact nle rfl) | (apply awp_cond; rfl)); all_goals (intro hc; have hp := hc; first | (simp at hp; done) | ((try simp at hp); first | (exfalso; omega) | skip))) | (apply awp_cond_any; rfl))
      all_goals try (exfalso; omega)
      all_goals (apply fin_int; rfl; clear hat hat2 hcon hpa hin; simp_all)
  | false =>
    have hfo := hnorow hh
    rw [hh] at hat hI
    rw [hfo] at hI
    clear hrow hnorow
    generalize posE t c.path = k at *
    by_cases k3 : c.kind = 3
    · rw [hg3 k3] at hpa
      refine acall_intro Tryz.func174 rfl _ Tryz.ntmps174 (Nat.le_of_ble_eq_true rfl) _ Tryz.results174 0 rfl rfl ?_
      repeat' (first | refine walk ?_ | (first | (apply to_call Tryz.func141 rfl rfl; intro hIsFn; refine o_callp hIsFn (hpa ..) ?_) | (apply to_call Tryz.func67 rfl rfl; intro hIsFn; refine o_callp hIsFn (hat ..) ?_) | (apply to_call Tryz.func67 rfl rfl; intro hIsFn; refine o_callp hIsFn (hat2 ..) ?_) | (apply to_call Tryz.func186 rfl rfl; intro hIsFn; refine o_callf hIsFn (hin ..) ?_; skip)) | ((first | (apply ops_split_t; rfl; rfl; exact nle rfl) | (apply ops_split_f; rfl; rfl; exact nle rfl) | (apply awp_cond; rfl)); all_goals (intro hc; have hp := hc; first | (simp at hp; done) | ((try simp at hp); first | (exfalso; omega) | skip))) | (apply awp_cond_any; rfl))
      all_goals try (exfalso; omega)
      all_goals (apply fin_int; rfl; clear hat hat2 hcon hpa hin; simp_all)
    · rw [hg0 k3] at hpa
      refine acall_intro Tryz.func174 rfl _ Tryz.ntmps174 (Nat.le_of_ble_eq_true rfl) _ Tryz.results174 0 rfl rfl ?_
      repeat' (first | refine walk ?_ | (first | (apply to_call Tryz.func141 rfl rfl; intro hIsFn; refine o_callp hIsFn (hpa ..) ?_) | (apply to_call Tryz.func67 rfl rfl; intro hIsFn; refine o_callp hIsFn (hat ..) ?_) | (apply to_call Tryz.func67 rfl rfl; intro hIsFn; refine o_callp hIsFn (hat2 ..) ?_) | (apply to_call Tryz.func186 rfl rfl; intro hIsFn; refine o_callf hIsFn (hin ..) ?_; skip) | (apply opsx_val; apply ex_call ([0]); exact isFn_of Tryz.func188 rfl rfl; exact hcon; (case hz => (refine rzl_cons (rz_pure rfl) (rzl_cons (rz_clo rzl_nil (rzl_cons (rz_op rfl (by simp) (rzrows_pure (fun row hrow => by rw [List.mem_singleton.1 hrow]; rfl))) rzl_nil)) rzl_nil))); (case hfl => rfl); (case hN => exact nle rfl))) | ((first | (apply ops_split_t; rfl; rfl; exact nle rfl) | (apply ops_split_f; rfl; rfl; exact nle rfl) | (apply awp_cond; rfl)); all_goals (intro hc; have hp := hc; first | (simp at hp; done) | ((try simp at hp); first | (exfalso; omega) | skip))) | (apply awp_cond_any; rfl))
      all_goals try (exfalso; omega)
      all_goals (apply fin_int; rfl; clear hat hat2 hcon hpa hin; simp_all)
end Go.Proofs.YtiljlcgmcmjcoaaGreatDoor

/- Changes in the abstract layer, 3: Clone, Insert, put. -/
set_option linter.unusedSimpArgs false
set_option linter.unnecessarySimpa false
set_option linter.unusedVariables false
set_option maxHeartbeats 1000000
namespace Go.Proofs.YtiljlcgmcmjcoaaGreatDoor
open Go.Ab Go.RowKit
set_option maxRecDepth 10000
attribute [local irreducible] Awp Ops OpsX Wanted Red ExOk Go.Ab.Fin ACall Rz RzL RzRows Enters ResOk RenV RenVL ArgV ArgVL

theorem a_cloneE (l : List Ent) (hl : l.length ≤ 1000000) :
    ACall C.P 101 [entAV l] [] (.os 0 0 l.length) [.own false 4 (l.map Ent.row)] := by
  by_cases h0 : l = []
  · subst h0
    refine acall_intro Tryz.func101 rfl _ Tryz.ntmps101 (Nat.le_of_ble_eq_true rfl) _ Tryz.results101 0 rfl rfl ?_
    repeat' (first | refine walk ?_ | (first | (refine o_fzl ?_) | (refine o_appn ?_) | (refine o_isnil ?_)) | ((first | (apply awp_cond; rfl)); all_goals (intro hc; have hp := hc; first | (simp at hp; done) | ((try simp at hp); first | (exfalso; omega) | skip))) | (apply awp_cond_any; rfl))
    · (refine fin_red (C := C) (red_nil (C := C) 2 4 rfl (Nat.zero_le _)) ?_)
      (apply fin_ownr (rs := [.tmp 2]) [(0, 0)] 1; (case hr => (repeat (first | exact resok_nil | (apply resok_tmp; rfl) | (apply resok_cell; rfl; rfl; rfl; rfl; rfl)))); (case hL => rfl); (case hh => (repeat (first | exact hsok_nil | refine q_id ?_ | refine q_idx ?_ ?_)); all_goals skip); (case hi => first | exact (rfl : _ = ([] : List (Nat × Nat))) | exact (rfl : _ = [((0 : Nat), (0 : Nat))]) | exact (rfl : _ = [((0 : Nat), (0 : Nat)), (1, 1)])); (case hz => first | rfl | (simp [pack, AV.ren, AV.ren.renL, lookN, getT, enumT]; done) | (simp [pack, AV.ren, AV.ren.renL, lookN, getT, enumT, *]; done) | skip))
    · (apply fin_ownr (rs := [.tmp 2]) [(0, 0)] 1; (case hr => (repeat (first | exact resok_nil | (apply resok_tmp; rfl) | (apply resok_cell; rfl; rfl; rfl; rfl; rfl)))); (case hL => rfl); (case hh => (repeat (first | exact hsok_nil | refine q_id ?_ | refine q_idx ?_ ?_)); all_goals skip); (case hi => first | exact (rfl : _ = ([] : List (Nat × Nat))) | exact (rfl : _ = [((0 : Nat), (0 : Nat))]) | exact (rfl : _ = [((0 : Nat), (0 : Nat)), (1, 1)])); (case hz => first | rfl | (simp [pack, AV.ren, AV.ren.renL, lookN, getT, enumT]; done) | (simp [pack, AV.ren, AV.ren.renL, lookN, getT, enumT, *]; done) | skip))
  · refine acall_intro Tryz.func101 rfl _ Tryz.ntmps101 (Nat.le_of_ble_eq_true rfl) _ Tryz.results101 0 rfl rfl ?_
    repeat' (first | refine walk ?_ | (first | (refine o_fzl ?_) | (refine o_appn ?_) | (apply opsx_val; apply ex_notnil; rfl; exact (fun h => h0 (List.map_eq_nil_iff.1 h)); rfl; rfl; (first | exact .inl rfl | exact .inr rfl); exact nle rfl)) | ((first | (apply awp_cond; rfl)); all_goals (intro hc; have hp := hc; first | (simp at hp; done) | ((try simp at hp); first | (exfalso; omega) | skip))) | (apply awp_cond_any; rfl))
    (apply fin_ownr (rs := [.tmp 2]) [(0, 0)] 1; (case hr => (repeat (first | exact resok_nil | (apply resok_tmp; rfl) | (apply resok_cell; rfl; rfl; rfl; rfl; rfl)))); (case hL => rfl); (case hh => (repeat (first | exact hsok_nil | refine q_id ?_ | refine q_idx ?_ ?_)); all_goals skip); (case hi => first | exact (rfl : _ = ([] : List (Nat × Nat))) | exact (rfl : _ = [((0 : Nat), (0 : Nat))]) | exact (rfl : _ = [((0 : Nat), (0 : Nat)), (1, 1)])); (case hz => first | rfl | (simp [pack, AV.ren, AV.ren.renL, lookN, getT, enumT]; done) | (simp [pack, AV.ren, AV.ren.renL, lookN, getT, enumT, *]; done) | skip))

theorem a_insertEnd (l : List Ent) (g : Ent) (hl : l.length ≤ 1000000) :
    ACall C1.P 199 [.os 0 0 l.length, .v (.int .i64 l.length), .sl false [g.row]] [.own false 4 (l.map Ent.row)] (.os 1 0 (l.length + 1)) [.dead, .own false 4 ((l ++ [g]).map Ent.row)] := by
  refine acall_intro (C := C1) Tryz.func199 rfl _ Tryz.ntmps199 (Nat.le_of_ble_eq_true rfl) _ Tryz.results199 1 rfl rfl ?_
  repeat' (first | refine walk ?_ | (first | (refine o_slo ?_) | (refine o_appo ?_)) | ((first | (apply ops_split_t; rfl; rfl; exact nle rfl) | (apply ops_split_f; rfl; rfl; exact nle rfl) | (apply awp_cond; rfl)); all_goals (intro hc; have hp := hc; first | (simp at hp; done) | ((try simp at hp); first | (exfalso; omega) | skip))) | (apply awp_cond_any; rfl))
  (apply fin_ownr (rs := [.tmp 6]) [(1, 1)] 2; (case hr => (repeat (first | exact resok_nil | (apply resok_tmp; rfl) | (apply resok_cell; rfl; rfl; rfl; rfl; rfl)))); (case hL => rfl); (case hh => (apply hsok_dead 0; exact maps_low rfl; (repeat (first | exact hsok_nil | refine q_id ?_ | refine q_idx ?_ ?_))); all_goals trace_state); (case hi => first | exact (rfl : _ = ([] : List (Nat × Nat))) | exact (rfl : _ = [((0 : Nat), (0 : Nat))]) | exact (rfl : _ = [((0 : Nat), (0 : Nat)), (1, 1)])); (case hz => first | rfl | (simp [pack, AV.ren, AV.ren.renL, lookN, getT, enumT]; done) | (simp [pack, AV.ren, AV.ren.renL, lookN, getT, enumT, *]; done) | skip))
theorem ins_new {α : Type} (R J Z : List α) (x : α) {i a b c d : Nat} (hi : i ≤ R.length) (hJ : J.length = 1 + Z.length) (ha : a = i) (hb : b = i + 1) (hc : c = i + 1) (hd : d = i + 1 + Z.length) :
    ((R.take i ++ J).take a ++ [x] ++ (R.take i ++ J).drop b).take c ++ Z ++ ((R.take i ++ J).take a ++ [x] ++ (R.take i ++ J).drop b).drop d = R.take i ++ ([x] ++ Z) := by
  subst ha; subst hb; subst hc; subst hd
  have h1 : (R.take a ++ J).take a = R.take a := by rw [List.take_append_of_le_length (by simp; omega), List.take_of_length_le (by simp; omega)]
  have h2 : (R.take a ++ [x] ++ (R.take a ++ J).drop (a + 1)).take (a + 1) = R.take a ++ [x] := by
    rw [List.take_append_of_le_length (by simp; omega), List.take_of_length_le (by simp; omega)]
  have h3 : (R.take a ++ [x] ++ (R.take a ++ J).drop (a + 1)).drop (a + 1 + Z.length) = [] := List.drop_of_length_le (by simp; omega)
  rw [h1, h2, h3]; simp
theorem ins_in {α : Type} (R Z : List α) (x : α) {i a b c d m : Nat} (hi : i + 1 ≤ R.length) (ha : a = i + 1) (hc : c = i) (hd : d = i + 1) (hm : m = i + 1 + Z.length) :
    ((R.take a ++ Z ++ R.drop b).take c ++ [x] ++ (R.take a ++ Z ++ R.drop b).drop d).take m = R.take i ++ ([x] ++ Z) := by
  subst ha; subst hc; subst hd; subst hm
  have h1 : (R.take (c + 1) ++ Z ++ R.drop b).take c = R.take c := by
    rw [List.append_assoc, List.take_append_of_le_length (by simp; omega), List.take_take, Nat.min_eq_left (by omega)]
  have h2 : (R.take (c + 1) ++ Z ++ R.drop b).drop (c + 1) = Z ++ R.drop b := by
    rw [List.append_assoc, List.drop_append_of_le_length (by simp; omega), List.drop_of_length_le (by simp; omega), List.nil_append]
  rw [h1, h2, ← List.append_assoc, List.take_append_of_le_length (by simp; omega), List.take_of_length_le (by simp; omega), List.append_assoc]
theorem a_insertAt (l : List Ent) (g : Ent) (i : Nat) (hi : i < l.length) (hl : l.length ≤ 1000000) :
    ACall C1.P 199 [.os 0 0 l.length, .v (.int .i64 (i : Int)), .sl false [g.row]] [.own false 4 (l.map Ent.row)] (.os 1 0 (l.length + 1)) [.dead, .own false 4 ((l.take i ++ ([g] ++ l.drop i)).map Ent.row)] := by
  refine acall_intro (C := C1) Tryz.func199 rfl _ Tryz.ntmps199 (Nat.le_of_ble_eq_true rfl) _ Tryz.results199 1 rfl rfl ?_
  refine awp_cap 0 4 (l.map Ent.row) rfl fun cap hcap => ?_
  rw [List.length_map] at hcap
  have hRt : (l.map Ent.row ++ junks 4 (cap - (l.map Ent.row).length)).take l.length = l.map Ent.row := by
    rw [List.take_append_of_le_length (by simp), List.take_of_length_le (by simp)]
  have hRl : l.length ≤ (l.map Ent.row ++ junks 4 (cap - (l.map Ent.row).length)).length := by simp
  generalize l.map Ent.row ++ junks 4 (cap - (l.map Ent.row).length) = R at hRt hRl ⊢
  have hcut : (R.drop i).take (l.length - i) = (l.drop i).map Ent.row := by rw [← List.drop_take, hRt, List.map_drop]
  have hti : R.take i = (l.take i).map Ent.row := by rw [List.map_take, ← hRt, List.take_take, Nat.min_eq_left (by omega)]
  have hck : ∀ row, row ∈ (l.drop i).map Ent.row → row.length = 4 := fun row hr => by obtain ⟨x, _, rfl⟩ := List.mem_map.1 hr; rfl
  have hcl : ∀ row, row ∈ (l.drop i).map Ent.row → row.all cellLike = true := fun row hr => by obtain ⟨x, _, rfl⟩ := List.mem_map.1 hr; rfl
  repeat' (first | refine walk ?_ | (first | (refine o_slo ?_) | (apply opsx_val; apply ex_cap_os; (case hx => rfl); (case hn => rfl); (case hT => rfl); (case he => rfl); (case hN => exact nle rfl)) | (apply opsx_new; apply ex_append_make; (case hx => rfl); (case hT => rfl); (case he => rfl); (case hE => rfl); (case hn => rfl); (case hl => (first | omega | (simp; done) | (simp only [List.length_cons, List.length_nil, List.length_map]; omega) | (simp; omega))); (case hy => exact congrArg (fun z => AV.v (Value.int IntKind.i64 z)) (show ((l.length + 1 : Nat) : Int) - (i : Int) = ((l.length + 1 - i : Nat) : Int) from by omega)); (case hxT => rfl); (case hxk => rfl); (case hz => rfl); (case hs0 => exact Nat.ne_of_beq_eq_false rfl); (case hg => omega); (case hsz => (first | omega | (simp; done) | (simp only [List.length_cons, List.length_nil, List.length_map]; omega) | (simp; omega))); (case hlen => (first | omega | (simp; done) | (simp only [List.length_cons, List.length_nil, List.length_map]; omega) | (simp; omega))); (case hN => exact nle rfl)) | (apply opsx_val; apply ex_overlaps; exact Tryz.func206; (case hname => rfl); (case hb => rfl); (case hnx => rfl); (case hex => rfl); (case hT => rfl); (case he => rfl); (case hE => rfl); (case hx => rfl); (case hy => rfl); (case hm => rfl); (case hk => exact Nat.ne_of_beq_eq_false rfl); (case hrw => intro row hrow; rw [List.mem_singleton.1 hrow]; exact Nat.succ_ne_zero _); (case hN => exact nle rfl)) | (apply opsx_upd; apply ex_copy_os; (case hx => rfl); (case hT => rfl); (case he => rfl); (case hE => rfl); (case hn => rfl); (case hsrc => exact srcC_of (srcA_sl rfl rfl)); (case hmin => exact Nat.min_eq_left (by (first | omega | (simp; done) | (simp only [List.length_cons, List.length_nil, List.length_map]; omega) | (simp; omega)))); (case hfit => (first | omega | (simp; done) | (simp only [List.length_cons, List.length_nil, List.length_map]; omega) | (simp; omega))); (case hN => exact nle rfl)) | (apply opsx_upd; apply ex_copy_os; (case hx => rfl); (case hT => rfl); (case he => rfl); (case hE => rfl); (case hn => rfl); (case hsrc => exact srcC_cut (cnt := l.length - i) rfl (List.mem_singleton.2 rfl) rfl (by omega) (by omega) (by first | exact hcut | simpa using hcut) hck hcl); (case hmin => (first | exact (Nat.min_eq_left (by (first | omega | (simp; done) | (simp only [List.length_cons, List.length_nil, List.length_map]; omega) | (simp; omega)))).trans (by (first | omega | (simp; done) | (simp only [List.length_cons, List.length_nil, List.length_map]; omega) | (simp; omega))) | exact (Nat.min_eq_right (by (first | omega | (simp; done) | (simp only [List.length_cons, List.length_nil, List.length_map]; omega) | (simp; omega)))).trans (by (first | omega | (simp; done) | (simp only [List.length_cons, List.length_nil, List.length_map]; omega) | (simp; omega))))); (case hfit => (first | omega | (simp; done) | (simp only [List.length_cons, List.length_nil, List.length_map]; omega) | (simp; omega))); (case hN => exact nle rfl))) | ((first | (apply ops_split_t; rfl; rfl; exact nle rfl) | (apply ops_split_f; rfl; rfl; exact nle rfl) | (apply awp_cond; rfl)); all_goals (intro hc; have hp := hc; first | (simp at hp; done) | ((try simp at hp); first | (exfalso; omega) | skip))) | (apply awp_cond_any; rfl))
  all_goals try (exfalso; omega)
  · have hrow := ins_new R (junks 4 (l.length + 1 - i)) ((l.drop i).map Ent.row) g.row (i := i) (a := 0 + i) (b := 0 + i + 1) (c := 0 + (i + 1)) (d := 0 + (i + 1) + ((l.drop i).map Ent.row).length) (by omega) (by simp; omega) (by omega) (by omega) (by omega) (by omega)
    (apply fin_ownr (rs := [.tmp 6]) [(1, 1)] 2; (case hr => (repeat (first | exact resok_nil | (apply resok_tmp; rfl) | (apply resok_cell; rfl; rfl; rfl; rfl; rfl)))); (case hL => rfl); (case hh => (apply hsok_dead 0; exact maps_low rfl; (repeat (first | exact hsok_nil | refine q_id ?_ | refine q_idx ?_ ?_))); all_goals (refine hrow.trans ?_; rw [hti]; simp)); (case hi => first | exact (rfl : _ = ([] : List (Nat × Nat))) | exact (rfl : _ = [((0 : Nat), (0 : Nat))]) | exact (rfl : _ = [((0 : Nat), (0 : Nat)), (1, 1)])); (case hz => first | rfl | (simp [pack, AV.ren, AV.ren.renL, lookN, getT, enumT]; done) | (simp [pack, AV.ren, AV.ren.renL, lookN, getT, enumT, *]; done) | (simp [pack, AV.ren, AV.ren.renL, lookN, getT, enumT]; omega)))
  · have hrow := ins_in R ((l.drop i).map Ent.row) g.row (i := i) (a := 0 + 0 + (i + 1)) (b := 0 + 0 + (i + 1) + ((l.drop i).map Ent.row).length) (c := 0 + 0 + i) (d := 0 + 0 + i + 1) (m := l.length + 1) (by omega) (by omega) (by omega) (by omega) (by simp; omega)
    have hrow := hrow.trans (show _ = (l.take i ++ ([g] ++ l.drop i)).map Ent.row from by rw [hti]; simp)
    apply fin_move (C := C1) 6 0 (l.length + 1)
    case hi => rfl
    case hn => rfl
    case hr => exact hrow
    case hnn => exact Nat.ne_of_beq_eq_false rfl
    case hnx => exact Nat.le_of_ble_eq_true rfl
    (apply fin_ownr (rs := [.tmp 6]) [(1, 1)] 2; (case hr => (repeat (first | exact resok_nil | (apply resok_tmp; rfl) | (apply resok_cell; rfl; rfl; rfl; rfl; rfl)))); (case hL => rfl); (case hh => (apply hsok_dead 0; exact maps_low rfl; (repeat (first | exact hsok_nil | refine q_id ?_ | refine q_idx ?_ ?_))); all_goals trace_state); (case hi => first | exact (rfl : _ = ([] : List (Nat × Nat))) | exact (rfl : _ = [((0 : Nat), (0 : Nat))]) | exact (rfl : _ = [((0 : Nat), (0 : Nat)), (1, 1)])); (case hz => first | rfl | (simp [pack, AV.ren, AV.ren.renL, lookN, getT, enumT]; done) | (simp [pack, AV.ren, AV.ren.renL, lookN, getT, enumT, *]; done) | (simp [pack, AV.ren, AV.ren.renL, lookN, getT, enumT]; omega)))
/-- An entry in the place of what is there. -/
def putT (t : List Ent) (x : Ent) : List Ent := if hitE t x.path = true then t.take (posE t x.path) ++ ([x] ++ t.drop (posE t x.path + 1)) else t.take (posE t x.path) ++ ([x] ++ t.drop (posE t x.path))
theorem a_put (t : List Ent) (x : Ent) (hl : t.length ≤ 1000000) (hs : rising entLt t = true) :
    ACall C1.P 189 [.os 0 0 t.length, .agg x.row] [.own false 4 (t.map Ent.row)] (.os 1 0 (putT t x).length) [.dead, .own false 4 ((putT t x).map Ent.row)] := by
  have hat := a_at t x.path (by omega) hs
  cases hh : hitE t x.path with
  | true =>
    obtain ⟨hp0, -, -, -⟩ := hitE_at hs hh
    have hL : putT t x = t.take (posE t x.path) ++ ([x] ++ t.drop (posE t x.path + 1)) := by simp [putT, hh]
    rw [hh] at hat
    generalize putT t x = L at hL ⊢
    generalize posE t x.path = p at hL hp0 hat
    have hlen : L.length = t.length := by rw [hL]; simp; omega
    have hrow := getRow (f := Ent.row) hp0
    refine acall_intro (C := C1) Tryz.func189 rfl _ Tryz.ntmps189 (Nat.le_of_ble_eq_true rfl) _ Tryz.results189 1 rfl rfl ?_
    repeat' (first | refine walk ?_ | (first | (apply opsx_val; apply ex_call ([0]); exact isFn_of Tryz.func67 rfl rfl; apply hat; (case hz => (repeat' (first | exact rzl_nil | apply rzl_cons | exact rz_pure rfl | exact rz_ex | (apply rz_os_pure; (case hn => rfl); (case hl => first | with_reducible rfl | (simp; done) | (simp [*]; done) | omega); (case hp => (first | assumption | exact pures_all rfl | exact pures_map fun _ => rfl))) | apply rz_agg | apply rz_clo))); (case hfl => rfl); (case hN => exact nle rfl)) | (refine o_ixo ?_)) | ((first | (apply ops_split_t; rfl; rfl; exact nle rfl) | (apply ops_split_f; rfl; rfl; exact nle rfl) | (apply awp_cond; rfl)); all_goals (intro hc; have hp := hc; first | (simp at hp; done) | ((try simp at hp); first | (exfalso; omega) | skip))) | (apply awp_cond_any; rfl))
    all_goals try (exfalso; omega)
    apply fin_move (C := C1) 4 0 t.length
    case hi => rfl
    case hn => rfl
    case hr => (show ((t.map Ent.row).set p x.row).take t.length = L.map Ent.row; rw [← List.map_set, hL, List.set_eq_take_append_cons_drop, if_pos hp0, List.take_of_length_le (by simp; omega)]; rfl)
    case hnn => exact Nat.ne_of_beq_eq_false rfl
    case hnx => exact Nat.le_of_ble_eq_true rfl
    (apply fin_ownr (rs := [.tmp 4]) [(2, 1)] 2; (case hr => (repeat (first | exact resok_nil | (apply resok_tmp; rfl) | (apply resok_cell; rfl; rfl; rfl; rfl; rfl)))); (case hL => rfl); (case hh => (apply hsok_dead 0; exact maps_low rfl; (repeat (first | exact hsok_nil | refine q_id ?_ | refine q_idx ?_ ?_))); all_goals trace_state); (case hi => first | exact (rfl : _ = ([] : List (Nat × Nat))) | exact (rfl : _ = [((0 : Nat), (0 : Nat))]) | exact (rfl : _ = [((0 : Nat), (0 : Nat)), (1, 1)])); (case hz => first | rfl | (simp [pack, AV.ren, AV.ren.renL, lookN, getT, enumT]; done) | (simp [pack, AV.ren, AV.ren.renL, lookN, getT, enumT, *]; done) | (simp [pack, AV.ren, AV.ren.renL, lookN, getT, enumT]; omega)))
  | false =>
    have hL : putT t x = t.take (posE t x.path) ++ ([x] ++ t.drop (posE t x.path)) := by simp [putT, hh]
    have hple := posE_le t x.path
    rw [hh] at hat
    generalize putT t x = L at hL ⊢
    generalize posE t x.path = p at hL hple hat
    have hlen : L.length = t.length + 1 := by rw [hL]; simp; omega
    by_cases hp0 : p = t.length
    · have hin := a_insertEnd t x hl
      have hL2 : L = t ++ [x] := by rw [hL, hp0]; simp
      rw [hp0] at hat
      refine acall_intro (C := C1) Tryz.func189 rfl _ Tryz.ntmps189 (Nat.le_of_ble_eq_true rfl) _ Tryz.results189 1 rfl rfl ?_
      repeat' (first | refine walk ?_ | (first | (apply opsx_val; apply ex_call ([0]); exact isFn_of Tryz.func67 rfl rfl; apply hat; (case hz => (repeat' (first | exact rzl_nil | apply rzl_cons | exact rz_pure rfl | exact rz_ex | (apply rz_os_pure; (case hn => rfl); (case hl => first | with_reducible rfl | (simp; done) | (simp [*]; done) | omega); (case hp => (first | assumption | exact pures_all rfl | exact pures_map fun _ => rfl))) | apply rz_agg | apply rz_clo))); (case hfl => rfl); (case hN => exact nle rfl)) | (refine o_ixo ?_) | (refine o_fzl ?_) | (apply to_call Tryz.func199 rfl rfl; intro hIsFn; refine o_callg ([0]) 0 hIsFn (hin ..) ?_)) | ((first | (apply ops_split_t; rfl; rfl; exact nle rfl) | (apply ops_split_f; rfl; rfl; exact nle rfl) | (apply awp_cond; rfl)); all_goals (intro hc; have hp := hc; first | (simp at hp; done) | ((try simp at hp); first | (exfalso; omega) | skip))) | (apply awp_cond_any; rfl))
      all_goals try (exfalso; omega)
      (apply fin_ownr (rs := [.tmp 4]) [(2, 1)] 2; (case hr => (repeat (first | exact resok_nil | (apply resok_tmp; rfl) | (apply resok_cell; rfl; rfl; rfl; rfl; rfl)))); (case hL => rfl); (case hh => (apply hsok_dead 0; exact maps_low rfl; (repeat (first | exact hsok_nil | refine q_id ?_ | refine q_idx ?_ ?_))); all_goals (rw [hL2])); (case hi => first | exact (rfl : _ = ([] : List (Nat × Nat))) | exact (rfl : _ = [((0 : Nat), (0 : Nat))]) | exact (rfl : _ = [((0 : Nat), (0 : Nat)), (1, 1)])); (case hz => first | rfl | (simp [pack, AV.ren, AV.ren.renL, lookN, getT, enumT]; done) | (simp [pack, AV.ren, AV.ren.renL, lookN, getT, enumT, *]; done) | (simp [pack, AV.ren, AV.ren.renL, lookN, getT, enumT]; omega)))
    · have hin := a_insertAt t x p (by omega) hl
      refine acall_intro (C := C1) Tryz.func189 rfl _ Tryz.ntmps189 (Nat.le_of_ble_eq_true rfl) _ Tryz.results189 1 rfl rfl ?_
      repeat' (first | refine walk ?_ | (first | (apply opsx_val; apply ex_call ([0]); exact isFn_of Tryz.func67 rfl rfl; apply hat; (case hz => (repeat' (first | exact rzl_nil | apply rzl_cons | exact rz_pure rfl | exact rz_ex | (apply rz_os_pure; (case hn => rfl); (case hl => first | with_reducible rfl | (simp; done) | (simp [*]; done) | omega); (case hp => (first | assumption | exact pures_all rfl | exact pures_map fun _ => rfl))) | apply rz_agg | apply rz_clo))); (case hfl => rfl); (case hN => exact nle rfl)) | (refine o_ixo ?_) | (refine o_fzl ?_) | (apply to_call Tryz.func199 rfl rfl; intro hIsFn; refine o_callg ([0]) 0 hIsFn (hin ..) ?_)) | ((first | (apply ops_split_t; rfl; rfl; exact nle rfl) | (apply ops_split_f; rfl; rfl; exact nle rfl) | (apply awp_cond; rfl)); all_goals (intro hc; have hp := hc; first | (simp at hp; done) | ((try simp at hp); first | (exfalso; omega) | skip))) | (apply awp_cond_any; rfl))
      all_goals try (exfalso; omega)
      (apply fin_ownr (rs := [.tmp 4]) [(2, 1)] 2; (case hr => (repeat (first | exact resok_nil | (apply resok_tmp; rfl) | (apply resok_cell; rfl; rfl; rfl; rfl; rfl)))); (case hL => rfl); (case hh => (apply hsok_dead 0; exact maps_low rfl; (repeat (first | exact hsok_nil | refine q_id ?_ | refine q_idx ?_ ?_))); all_goals (rw [hL])); (case hi => first | exact (rfl : _ = ([] : List (Nat × Nat))) | exact (rfl : _ = [((0 : Nat), (0 : Nat))]) | exact (rfl : _ = [((0 : Nat), (0 : Nat)), (1, 1)])); (case hz => first | rfl | (simp [pack, AV.ren, AV.ren.renL, lookN, getT, enumT]; done) | (simp [pack, AV.ren, AV.ren.renL, lookN, getT, enumT, *]; done) | (simp [pack, AV.ren, AV.ren.renL, lookN, getT, enumT]; omega)))
end Go.Proofs.YtiljlcgmcmjcoaaGreatDoor

/- Changes in the abstract layer, 4: DeleteFunc, without. -/
set_option linter.unusedSimpArgs false
set_option linter.unnecessarySimpa false
set_option linter.unusedVariables false
set_option maxHeartbeats 1000000
namespace Go.Proofs.YtiljlcgmcmjcoaaGreatDoor
open Go.Ab Go.RowKit
set_option maxRecDepth 10000
attribute [local irreducible] Awp Ops OpsX Wanted Red ExOk Go.Ab.Fin ACall Rz RzL RzRows Enters ResOk RenV RenVL ArgV ArgVL

def keepE (p : Ent → Bool) (t : List Ent) : List Ent := t.filter fun x => !p x
theorem keepE_succ {p : Ent → Bool} {t : List Ent} {j : Nat} (h : j < t.length) : keepE p (t.take (j + 1)) = if p t[j] = true then keepE p (t.take j) else keepE p (t.take j) ++ [t[j]] := by
  unfold keepE
  rw [List.take_succ_eq_append_getElem h, List.filter_append]
  cases hs : p t[j] <;> simp [hs]
theorem keepE_len (p : Ent → Bool) (t : List Ent) (j : Nat) (hj : j ≤ t.length) : (keepE p (t.take j)).length ≤ j := by
  have h1 : (keepE p (t.take j)).length ≤ (t.take j).length := List.length_filter_le ..
  simp at h1; omega
theorem a_deleteFunc (p : Ent → Bool) (g : FuncId) (hg : IsFn C1.P g) (cap : List AV) (hcap : AV.pure.pureL cap = true) (t : List Ent) (hl : t.length ≤ 1000000) (hcf : ∀ s, s ∈ t → AFn C1.P g (AV.agg s.row :: cap) (.v (.bool (p s)))) :
    ACall C1.P 200 [.os 0 0 t.length, .clo (.func g) [] cap] [.own false 4 (t.map Ent.row)] (.os 0 0 (keepE p t).length) [.own false 4 ((keepE p t).map Ent.row)] := by
  have hidx := a_indexE p g hg cap hcap t hl hcf
  refine acall_intro (C := C1) Tryz.func200 rfl _ Tryz.ntmps200 (Nat.le_of_ble_eq_true rfl) _ Tryz.results200 1 rfl rfl ?_
  rcases idxOf_cases p t with ⟨h1, h2⟩ | ⟨k, hk, h1, h2, h3⟩
  · have hall : keepE p t = t := List.filter_eq_self.2 fun x hx => by rw [h2 x hx]; rfl
    rw [h1] at hidx
    rw [hall]
    repeat' (first | refine walk ?_ | (first | (apply opsx_val; apply ex_call ([0]); exact isFn_of Tryz.func198 rfl rfl; exact hidx; (case hz => (exact rzl_cons (rz_os_pure rfl (by simp) (pures_map fun _ => rfl)) (rzl_cons (rz_clo_pure hcap) rzl_nil))); (case hfl => rfl); (case hN => exact nle rfl))) | ((first | (apply ops_split_t; rfl; rfl; exact nle rfl) | (apply ops_split_f; rfl; rfl; exact nle rfl) | (apply awp_cond; rfl)); all_goals (intro hc; have hp := hc; first | (simp at hp; done) | ((try simp at hp); first | (exfalso; omega) | skip))) | (apply awp_cond_any; rfl))
    all_goals try (exfalso; omega)
    (apply fin_ownr (rs := [.tmp 4]) [] 1; (case hr => (repeat (first | exact resok_nil | (apply resok_tmp; rfl) | (apply resok_cell; rfl; rfl; rfl; rfl; rfl)))); (case hL => rfl); (case hh => (repeat (first | exact hsok_nil | refine q_id ?_ | refine q_idx ?_ ?_)); all_goals trace_state); (case hi => first | exact (rfl : _ = ([] : List (Nat × Nat))) | exact (rfl : _ = [((0 : Nat), (0 : Nat))]) | exact (rfl : _ = [((0 : Nat), (0 : Nat)), (1, 1)])); (case hz => first | rfl | (simp [pack, AV.ren, AV.ren.renL, lookN, getT, enumT]; done) | (simp [pack, AV.ren, AV.ren.renL, lookN, getT, enumT, *]; done) | trace_state))
  · rw [h1] at hidx
    have hk1 : keepE p (t.take (k + 1)) = t.take k := by
      rw [keepE_succ hk, if_pos h3]
      exact List.filter_eq_self.2 fun x hx => by rw [h2 x hx]; rfl
    repeat' (first | refine walk ?_ | (first | (apply opsx_val; apply ex_call ([0]); exact isFn_of Tryz.func198 rfl rfl; exact hidx; (case hz => (exact rzl_cons (rz_os_pure rfl (by simp) (pures_map fun _ => rfl)) (rzl_cons (rz_clo_pure hcap) rzl_nil))); (case hfl => rfl); (case hN => exact nle rfl))) | ((first | (apply ops_split_t; rfl; rfl; exact nle rfl) | (apply ops_split_f; rfl; rfl; exact nle rfl) | (apply awp_cond; rfl)); all_goals (intro hc; have hp := hc; first | (simp at hp; done) | ((try simp at hp); first | (exfalso; omega) | skip))) | (apply awp_cond_any; rfl))
    all_goals try (exfalso; omega)
    (refine Awp.red (red_ren (τ := ⟨[(0, .os 0 0 t.length), (1, .clo (.func g) [] cap), (5, .v (.int .i64 (k : Int))), (6, .v (.int .i64 ((k : Int) + 1)))], [(0, .own false 4 (t.map Ent.row))], 1⟩) [] rfl ?gts ?ghs) ?gmain; (case gts => (repeat (first | exact tsok_nil | refine p_pure ?_ | refine p_op ?_ | refine p_os ?_ | refine p_eq ?_ ?_))); (case ghs => (repeat (first | exact hsok_nil | refine q_id ?_ | refine q_idx ?_ ?_))))
    refine awp_loop (C := C1) (fun n σ => ∃ (j : Nat) (E : List Ent), k + 1 ≤ j ∧ j ≤ t.length ∧ n = t.length - j ∧ E.length = t.length ∧ E.take (keepE p (t.take j)).length = keepE p (t.take j) ∧ E.drop j = t.drop j ∧ σ = ⟨[(0, .os 0 0 t.length), (1, .clo (.func g) [] cap), (5, .v (.int .i64 ((keepE p (t.take j)).length : Int))), (6, .v (.int .i64 (j : Int)))], [(0, .own false 4 (E.map Ent.row))], 1⟩) (t.length - (k + 1)) ⟨k + 1, t, Nat.le_refl _, hk, rfl, rfl, (by rw [hk1]; simp), rfl, ?_⟩ ?_
    · have htl : (t.take k).length = k := by simp; omega
      rw [hk1, htl]; rfl
    rintro n σ ⟨j, E, hkj, hj, rfl, hEl, hEt, hEd, rfl⟩
    have hil := keepE_len p t j hj
    by_cases hlt : j < t.length
    · have hej : E[j]'(by omega) = t[j] := by
        have h := congrArg (fun l => l[0]?) hEd
        simp only [List.getElem?_drop, Nat.add_zero] at h
        rw [List.getElem?_eq_getElem (by omega), List.getElem?_eq_getElem hlt] at h
        exact Option.some.inj h
      have hr := getRow (f := Ent.row) (l := E) (i := j) (by omega)
      rw [hej] at hr
      have hci := hcf t[j] (List.getElem_mem _)
      have hks := @keepE_succ p t j hlt
      have hEd2 : E.drop (j + 1) = t.drop (j + 1) := by rw [← List.drop_drop, hEd, List.drop_drop]
      have hml : (E.map Ent.row).length = E.length := List.length_map ..
      have hrw : ∀ i : Nat, i < E.length → (E.map Ent.row)[i]? = some (E[i]?.getD t[j]).row := fun i hi => by
        rw [List.getElem?_map, List.getElem?_eq_getElem hi]; rfl
      have hri := hrw (keepE p (t.take j)).length (by omega)
      generalize hI : (keepE p (t.take j)).length = i at *
      generalize p t[j] = P at *
      cases P with
      | true =>
        rw [if_pos rfl] at hks
        repeat' (first | refine walk ?_ | (first | (refine o_ixo ?_) | (apply opsx_val; apply ex_callv []; rfl; exact hg; exact hci; (case hz => exact rzl_cons (rz_pure rfl) (rzl_self hcap)); (case hfl => rfl); (case hN => exact nle rfl))) | ((first | (apply ops_split_t; rfl; rfl; exact nle rfl) | (apply ops_split_f; rfl; rfl; exact nle rfl) | (apply awp_cond; rfl)); all_goals (intro hc; have hp := hc; first | (simp at hp; done) | ((try simp at hp); first | (exfalso; omega) | skip))) | (apply awp_cond_any; rfl))
        all_goals try (exfalso; omega)
        refine ⟨t.length - (j + 1), _, by omega, red_ren (τ := ⟨[(0, .os 0 0 t.length), (1, .clo (.func g) [] cap), (5, .v (.int .i64 ((keepE p (t.take (j + 1))).length : Int))), (6, .v (.int .i64 ((j + 1 : Nat) : Int)))], [(0, .own false 4 (List.map Ent.row E))], 1⟩) [] rfl ?gts ?ghs, j + 1, E, by omega, by omega, rfl, hEl, (by rw [hks, hI]; exact hEt), hEd2, rfl⟩; (case gts => (repeat (first | exact tsok_nil | refine p_pure ?_ | refine p_op ?_ | refine p_os ?_ | refine p_eq ?_ ?_)); all_goals (rw [hks, hI])); (case ghs => (repeat (first | exact hsok_nil | refine q_id ?_ | refine q_idx ?_ ?_)); all_goals skip)
      | false =>
        rw [if_neg (by decide)] at hks
        have hlen1 : (keepE p (t.take (j + 1))).length = i + 1 := by rw [hks, List.length_append, hI]; rfl
        have hset : (E.set i t[j]).take (i + 1) = keepE p (t.take (j + 1)) := by
          rw [hks, List.take_set, ← hEt, List.take_succ_eq_append_getElem (by omega)]
          rw [List.set_append_right _ _ (by simp; omega)]
          simp [show i - min i E.length = 0 from by omega]
        have hdr : (E.set i t[j]).drop (j + 1) = t.drop (j + 1) := by rw [List.drop_set_of_lt (by omega)]; exact hEd2
        repeat' (first | refine walk ?_ | (first | (refine o_ixo ?_) | (apply opsx_val; apply ex_callv []; rfl; exact hg; exact hci; (case hz => exact rzl_cons (rz_pure rfl) (rzl_self hcap)); (case hfl => rfl); (case hN => exact nle rfl))) | ((first | (apply ops_split_t; rfl; rfl; exact nle rfl) | (apply ops_split_f; rfl; rfl; exact nle rfl) | (apply awp_cond; rfl)); all_goals (intro hc; have hp := hc; first | (simp at hp; done) | ((try simp at hp); first | (exfalso; omega) | skip))) | (apply awp_cond_any; rfl))
        all_goals try (exfalso; omega)
        refine ⟨t.length - (j + 1), _, by omega, red_ren (τ := ⟨[(0, .os 0 0 t.length), (1, .clo (.func g) [] cap), (5, .v (.int .i64 ((keepE p (t.take (j + 1))).length : Int))), (6, .v (.int .i64 ((j + 1 : Nat) : Int)))], [(0, .own false 4 (List.map Ent.row (E.set i t[j])))], 1⟩) [] rfl ?gts ?ghs, j + 1, (E.set i t[j]), by omega, by omega, rfl, (by rw [List.length_set]; exact hEl), (by rw [hlen1]; exact hset), hdr, rfl⟩; (case gts => (repeat (first | exact tsok_nil | refine p_pure ?_ | refine p_op ?_ | refine p_os ?_ | refine p_eq ?_ ?_)); all_goals (rw [hlen1])); (case ghs => (repeat (first | exact hsok_nil | refine q_id ?_ | refine q_idx ?_ ?_)); all_goals (rw [List.map_set]; rfl))
    obtain rfl : j = t.length := by omega
    rw [List.take_length] at *
    repeat' (first | refine walk ?_ | (first | (refine o_slo ?_) | (refine o_clr ?_)) | ((first | (apply ops_split_t; rfl; rfl; exact nle rfl) | (apply ops_split_f; rfl; rfl; exact nle rfl) | (apply awp_cond; rfl)); all_goals (intro hc; have hp := hc; first | (simp at hp; done) | ((try simp at hp); first | (exfalso; omega) | skip))) | (apply awp_cond_any; rfl))
    all_goals try (exfalso; omega)
    apply fin_cut (C := C1) 0 (keepE p t).length
    case hn => rfl
    case hr =>
      refine Eq.trans (b := (keepE p t).map Ent.row) ?_ rfl
      rw [List.append_assoc, List.take_append_of_le_length (by simp; omega), Nat.zero_add, List.take_take, Nat.min_self, ← List.map_take, hEt]
    (apply fin_ownr (rs := [.tmp 4]) [] 1; (case hr => (repeat (first | exact resok_nil | (apply resok_tmp; rfl) | (apply resok_cell; rfl; rfl; rfl; rfl; rfl)))); (case hL => rfl); (case hh => (repeat (first | exact hsok_nil | refine q_id ?_ | refine q_idx ?_ ?_)); all_goals trace_state); (case hi => first | exact (rfl : _ = ([] : List (Nat × Nat))) | exact (rfl : _ = [((0 : Nat), (0 : Nat))]) | exact (rfl : _ = [((0 : Nat), (0 : Nat)), (1, 1)])); (case hz => first | rfl | (simp [pack, AV.ren, AV.ren.renL, lookN, getT, enumT]; done) | (simp [pack, AV.ren, AV.ren.renL, lookN, getT, enumT, *]; done) | (simp [pack, AV.ren, AV.ren.renL, lookN, getT, enumT]; omega)))
def inP (p : Str) (x : Ent) : Bool := inB x.path p
theorem a_withoutC (x : Ent) (p : Str) (hp : p.length ≤ 140737488355328) : AFn C.P 201 [.agg x.row, .fp [[.v (str p)]] 0 0] (.v (.bool (inP p x))) := by
  have hin := a_in x.path p hp
  refine acall_intro Tryz.func201 rfl _ Tryz.ntmps201 (Nat.le_of_ble_eq_true rfl) _ Tryz.results201 0 rfl rfl ?_
  repeat' (first | refine walk ?_ | (first | (apply to_call Tryz.func186 rfl rfl; intro hIsFn; refine o_callf hIsFn (hin ..) ?_; skip)) | ((first | (apply awp_cond; rfl)); all_goals (intro hc; have hp := hc; first | (simp at hp; done) | ((try simp at hp); first | (exfalso; omega) | skip))) | (apply awp_cond_any; rfl))
  all_goals (apply fin_bool; rfl; rfl)
theorem a_without (t : List Ent) (p : Str) (hl : t.length ≤ 1000000) (hpl : p.length ≤ 140737488355328) :
    ACall C1.P 190 [.os 0 0 t.length, .v (str p)] [.own false 4 (t.map Ent.row)] (.os 0 0 (keepE (inP p) t).length) [.own false 4 ((keepE (inP p) t).map Ent.row)] := by
  have hdel := a_deleteFunc (inP p) 201 (isFn_of Tryz.func201 rfl rfl) [.fp [[.v (str p)]] 0 0] rfl t hl (fun x _ => a_withoutC x p hpl)
  refine acall_intro (C := C1) Tryz.func190 rfl _ Tryz.ntmps190 (Nat.le_of_ble_eq_true rfl) _ Tryz.results190 1 rfl rfl ?_
  (repeat apply awp_seq); apply awp_region; (repeat' (first | apply ops_free | refine o_mv ?_ | refine o_as ?_ | refine o_ld ?_ | refine o_fa ?_ | refine o_bi ?_ | refine o_pk ?_ | refine o_ln ?_ | refine o_ia ?_ | refine o_ix ?_ | refine o_no ?_ | refine o_ex ?_ | refine o_fi ?_ | refine o_fn ?_ | refine o_nc ?_ | refine o_bu ?_ | refine o_al ?_ | refine o_bx ?_ | refine o_sto ?_ | (first | fail) | refine r_nil ?_ | refine g_on_t ?_ | refine g_on_f ?_ | refine g_off_t ?_ | refine g_off_f ?_ | refine g_unw ?_ | refine g_yes ?_ | refine g_no_t ?_ | refine g_no_f ?_ | ((first | refine g_sp_t ?_ ?_ | refine g_sp_f ?_ ?_); all_goals (intro hc; have hp := hc; first | (simp at hp; done) | ((try simp at hp); first | (exfalso; omega) | skip))))); show Awp _ _ _ _ _
  (refine Awp.red (red_freeze 1 rfl ?_) ?_; (intro row hrow; obtain rfl := List.mem_singleton.1 hrow; rfl); refine Awp.red (red_fp 3 1 rfl rfl (Nat.le_of_ble_eq_true rfl)) ?_)
  repeat' (first | refine walk ?_ | (first | (apply to_call Tryz.func200 rfl rfl; intro hIsFn; refine o_callh ([0]) 0 hIsFn (hdel ..) ?_)) | ((first | (apply ops_split_t; rfl; rfl; exact nle rfl) | (apply ops_split_f; rfl; rfl; exact nle rfl) | (apply awp_cond; rfl)); all_goals (intro hc; have hp := hc; first | (simp at hp; done) | ((try simp at hp); first | (exfalso; omega) | skip))) | (apply awp_cond_any; rfl))
  all_goals try (exfalso; omega)
  (apply fin_ownr (rs := [.tmp 4]) [] 1; (case hr => (repeat (first | exact resok_nil | (apply resok_tmp; rfl) | (apply resok_cell; rfl; rfl; rfl; rfl; rfl)))); (case hL => rfl); (case hh => (repeat (first | exact hsok_nil | refine q_id ?_ | refine q_idx ?_ ?_)); all_goals trace_state); (case hi => first | exact (rfl : _ = ([] : List (Nat × Nat))) | exact (rfl : _ = [((0 : Nat), (0 : Nat))]) | exact (rfl : _ = [((0 : Nat), (0 : Nat)), (1, 1)])); (case hz => first | rfl | (simp [pack, AV.ren, AV.ren.renL, lookN, getT, enumT]; done) | (simp [pack, AV.ren, AV.ren.renL, lookN, getT, enumT, *]; done) | (simp [pack, AV.ren, AV.ren.renL, lookN, getT, enumT]; omega)))
end Go.Proofs.YtiljlcgmcmjcoaaGreatDoor

/- Changes in the abstract layer, 5: done (all kinds but moves). -/
set_option linter.unusedSimpArgs false
set_option linter.unnecessarySimpa false
set_option linter.unusedVariables false
set_option maxHeartbeats 1000000
namespace Go.Proofs.YtiljlcgmcmjcoaaGreatDoor
open Go.Ab Go.RowKit
set_option maxRecDepth 10000
attribute [local irreducible] Awp Ops OpsX Wanted Red ExOk Go.Ab.Fin ACall Rz RzL RzRows Enters ResOk RenV RenVL ArgV ArgVL

def moveTo (c : Chg) (v : Int) (x : Ent) : Ent := ⟨c.to ++ x.path.drop c.path.length, x.fold, x.text, if x.path = c.path then v else x.ver⟩
def goesOf (t : List Ent) (c : Chg) (v : Int) : List Ent := (t.filter (inP c.path)).map (moveTo c v)
def doneL (t : List Ent) (c : Chg) (v : Int) : List Ent :=
  if c.kind = 1 then putT t ⟨c.path, true, [], v⟩
  else if c.kind = 2 then putT t ⟨c.path, false, c.text, v⟩
  else if c.kind = 4 then keepE (inP c.path) t
  else (goesOf t c v).foldl putT (keepE (inP c.path) t)
def moveBad (t : List Ent) (c : Chg) : Bool := decide (c.kind = 3) && (t.filter (inP c.path)).any fun x => tooGreat (c.to ++ x.path.drop c.path.length)
def doneE (t : List Ent) (c : Chg) (v : Int) : Int := if moveBad t c = true then 2 else if 60 < (doneL t c v).length then 2 else 0
def resAV (e : Int) (n : Nat) : AV := if e = 0 then .tup [.os 1 0 n, .v (.int .i64 0)] else .tup [.sl true [], .v (.int .i64 e)]

theorem a_done1 (t : List Ent) (c : Chg) (v : Int) (hl : t.length ≤ 1000000) (hs : rising entLt t = true) (hk : c.kind = 1) (hlen : (doneL t c v).length ≤ 1000001) :
    ACall C1.P 175 [.os 0 0 t.length, .agg c.row, .v (.int .i64 v)] [.own false 4 (t.map Ent.row)] (resAV (doneE t c v) (doneL t c v).length) [.dead, .own false 4 ((doneL t c v).map Ent.row)] := by
  have hput : ACall C1.P 189 [.os 0 0 t.length, .agg [.v (str c.path), .v (.bool true), .v (str []), .v (.int .i64 v)]] [.own false 4 (t.map Ent.row)] _ _ := a_put t ⟨c.path, true, [], v⟩ hl hs
  have hD : doneL t c v = putT t ⟨c.path, true, [], v⟩ := by simp [doneL, hk]
  have hE : doneE t c v = if 60 < (doneL t c v).length then 2 else 0 := by simp [doneE, moveBad, hk]
  rw [← hD] at hput
  generalize doneE t c v = E at *
  generalize doneL t c v = L at *
  by_cases h60 : 60 < L.length
  · rw [if_pos h60] at hE
    subst hE
    refine acall_intro (C := C1) Tryz.func175 rfl _ Tryz.ntmps175 (Nat.le_of_ble_eq_true rfl) _ Tryz.results175 1 rfl rfl ?_
    repeat' (first | refine walk ?_ | (first | (apply to_call Tryz.func189 rfl rfl; intro hIsFn; refine o_callg ([0]) 0 hIsFn (hput ..) ?_)) | ((first | (apply ops_split_t; rfl; rfl; exact nle rfl) | (apply ops_split_f; rfl; rfl; exact nle rfl) | (apply awp_cond; rfl)); all_goals (intro hc; have hp := hc; first | (simp at hp; done) | ((try simp at hp); first | (exfalso; omega) | skip))) | (apply awp_cond_any; rfl))
    all_goals try (exfalso; omega)
    (apply fin_ownr (rs := [.tmp 6, .tmp 7]) [(2, 1)] 2; (case hr => (repeat (first | exact resok_nil | (apply resok_tmp; rfl) | (apply resok_cell; rfl; rfl; rfl; rfl; rfl)))); (case hL => rfl); (case hh => (apply hsok_dead 0; exact maps_low rfl; (repeat (first | exact hsok_nil | refine q_id ?_ | refine q_idx ?_ ?_))); all_goals trace_state); (case hi => first | exact (rfl : _ = ([] : List (Nat × Nat))) | exact (rfl : _ = [((0 : Nat), (0 : Nat))]) | exact (rfl : _ = [((0 : Nat), (0 : Nat)), (1, 1)])); (case hz => first | rfl | (simp [pack, AV.ren, AV.ren.renL, lookN, getT, enumT]; done) | (simp [pack, AV.ren, AV.ren.renL, lookN, getT, enumT, *]; done) | trace_state))
  · rw [if_neg h60] at hE
    subst hE
    refine acall_intro (C := C1) Tryz.func175 rfl _ Tryz.ntmps175 (Nat.le_of_ble_eq_true rfl) _ Tryz.results175 1 rfl rfl ?_
    repeat' (first | refine walk ?_ | (first | (apply to_call Tryz.func189 rfl rfl; intro hIsFn; refine o_callg ([0]) 0 hIsFn (hput ..) ?_)) | ((first | (apply ops_split_t; rfl; rfl; exact nle rfl) | (apply ops_split_f; rfl; rfl; exact nle rfl) | (apply awp_cond; rfl)); all_goals (intro hc; have hp := hc; first | (simp at hp; done) | ((try simp at hp); first | (exfalso; omega) | skip))) | (apply awp_cond_any; rfl))
    all_goals try (exfalso; omega)
    (apply fin_ownr (rs := [.tmp 6, .tmp 7]) [(2, 1)] 2; (case hr => (repeat (first | exact resok_nil | (apply resok_tmp; rfl) | (apply resok_cell; rfl; rfl; rfl; rfl; rfl)))); (case hL => rfl); (case hh => (apply hsok_dead 0; exact maps_low rfl; (repeat (first | exact hsok_nil | refine q_id ?_ | refine q_idx ?_ ?_))); all_goals trace_state); (case hi => first | exact (rfl : _ = ([] : List (Nat × Nat))) | exact (rfl : _ = [((0 : Nat), (0 : Nat))]) | exact (rfl : _ = [((0 : Nat), (0 : Nat)), (1, 1)])); (case hz => first | rfl | (simp [pack, AV.ren, AV.ren.renL, lookN, getT, enumT]; done) | (simp [pack, AV.ren, AV.ren.renL, lookN, getT, enumT, *]; done) | trace_state))
theorem a_done2 (t : List Ent) (c : Chg) (v : Int) (hl : t.length ≤ 1000000) (hs : rising entLt t = true) (hk : c.kind = 2) (hlen : (doneL t c v).length ≤ 1000001) :
    ACall C1.P 175 [.os 0 0 t.length, .agg c.row, .v (.int .i64 v)] [.own false 4 (t.map Ent.row)] (resAV (doneE t c v) (doneL t c v).length) [.dead, .own false 4 ((doneL t c v).map Ent.row)] := by
  have hput : ACall C1.P 189 [.os 0 0 t.length, .agg [.v (str c.path), .v (.bool false), .v (str c.text), .v (.int .i64 v)]] [.own false 4 (t.map Ent.row)] _ _ := a_put t ⟨c.path, false, c.text, v⟩ hl hs
  have hD : doneL t c v = putT t ⟨c.path, false, c.text, v⟩ := by simp [doneL, hk]
  have hE : doneE t c v = if 60 < (doneL t c v).length then 2 else 0 := by simp [doneE, moveBad, hk]
  rw [← hD] at hput
  generalize doneE t c v = E at *
  generalize doneL t c v = L at *
  by_cases h60 : 60 < L.length
  · rw [if_pos h60] at hE
    subst hE
    refine acall_intro (C := C1) Tryz.func175 rfl _ Tryz.ntmps175 (Nat.le_of_ble_eq_true rfl) _ Tryz.results175 1 rfl rfl ?_
    repeat' (first | refine walk ?_ | (first | (apply to_call Tryz.func189 rfl rfl; intro hIsFn; refine o_callg ([0]) 0 hIsFn (hput ..) ?_)) | ((first | (apply ops_split_t; rfl; rfl; exact nle rfl) | (apply ops_split_f; rfl; rfl; exact nle rfl) | (apply awp_cond; rfl)); all_goals (intro hc; have hp := hc; first | (simp at hp; done) | ((try simp at hp); first | (exfalso; omega) | skip))) | (apply awp_cond_any; rfl))
    all_goals try (exfalso; omega)
    (apply fin_ownr (rs := [.tmp 6, .tmp 7]) [(2, 1)] 2; (case hr => (repeat (first | exact resok_nil | (apply resok_tmp; rfl) | (apply resok_cell; rfl; rfl; rfl; rfl; rfl)))); (case hL => rfl); (case hh => (apply hsok_dead 0; exact maps_low rfl; (repeat (first | exact hsok_nil | refine q_id ?_ | refine q_idx ?_ ?_))); all_goals trace_state); (case hi => first | exact (rfl : _ = ([] : List (Nat × Nat))) | exact (rfl : _ = [((0 : Nat), (0 : Nat))]) | exact (rfl : _ = [((0 : Nat), (0 : Nat)), (1, 1)])); (case hz => first | rfl | (simp [pack, AV.ren, AV.ren.renL, lookN, getT, enumT]; done) | (simp [pack, AV.ren, AV.ren.renL, lookN, getT, enumT, *]; done) | trace_state))
  · rw [if_neg h60] at hE
    subst hE
    refine acall_intro (C := C1) Tryz.func175 rfl _ Tryz.ntmps175 (Nat.le_of_ble_eq_true rfl) _ Tryz.results175 1 rfl rfl ?_
    repeat' (first | refine walk ?_ | (first | (apply to_call Tryz.func189 rfl rfl; intro hIsFn; refine o_callg ([0]) 0 hIsFn (hput ..) ?_)) | ((first | (apply ops_split_t; rfl; rfl; exact nle rfl) | (apply ops_split_f; rfl; rfl; exact nle rfl) | (apply awp_cond; rfl)); all_goals (intro hc; have hp := hc; first | (simp at hp; done) | ((try simp at hp); first | (exfalso; omega) | skip))) | (apply awp_cond_any; rfl))
    all_goals try (exfalso; omega)
    (apply fin_ownr (rs := [.tmp 6, .tmp 7]) [(2, 1)] 2; (case hr => (repeat (first | exact resok_nil | (apply resok_tmp; rfl) | (apply resok_cell; rfl; rfl; rfl; rfl; rfl)))); (case hL => rfl); (case hh => (apply hsok_dead 0; exact maps_low rfl; (repeat (first | exact hsok_nil | refine q_id ?_ | refine q_idx ?_ ?_))); all_goals trace_state); (case hi => first | exact (rfl : _ = ([] : List (Nat × Nat))) | exact (rfl : _ = [((0 : Nat), (0 : Nat))]) | exact (rfl : _ = [((0 : Nat), (0 : Nat)), (1, 1)])); (case hz => first | rfl | (simp [pack, AV.ren, AV.ren.renL, lookN, getT, enumT]; done) | (simp [pack, AV.ren, AV.ren.renL, lookN, getT, enumT, *]; done) | trace_state))
theorem a_done4 (t : List Ent) (c : Chg) (v : Int) (hl : t.length ≤ 1000000) (hk : c.kind = 4) (hpl : c.path.length ≤ 140737488355328) :
    ACall C1.P 175 [.os 0 0 t.length, .agg c.row, .v (.int .i64 v)] [.own false 4 (t.map Ent.row)] (resAV (doneE t c v) (doneL t c v).length) [.dead, .own false 4 ((doneL t c v).map Ent.row)] := by
  have hwo := a_without t c.path hl hpl
  have hD : doneL t c v = keepE (inP c.path) t := by simp [doneL, hk]
  have hE : doneE t c v = if 60 < (doneL t c v).length then 2 else 0 := by simp [doneE, moveBad, hk]
  have hlen : (doneL t c v).length ≤ t.length := by rw [hD]; exact List.length_filter_le ..
  rw [← hD] at hwo
  generalize doneE t c v = E at *
  generalize doneL t c v = L at *
  by_cases h60 : 60 < L.length
  · rw [if_pos h60] at hE
    subst hE
    refine acall_intro (C := C1) Tryz.func175 rfl _ Tryz.ntmps175 (Nat.le_of_ble_eq_true rfl) _ Tryz.results175 1 rfl rfl ?_
    repeat' (first | refine walk ?_ | (first | (apply to_call Tryz.func190 rfl rfl; intro hIsFn; refine o_callh ([0]) 0 hIsFn (hwo ..) ?_)) | ((first | (apply ops_split_t; rfl; rfl; exact nle rfl) | (apply ops_split_f; rfl; rfl; exact nle rfl) | (apply awp_cond; rfl)); all_goals (intro hc; have hp := hc; first | (simp at hp; done) | ((try simp at hp); first | (exfalso; omega) | skip))) | (apply awp_cond_any; rfl))
    all_goals try (exfalso; omega)
    apply fin_move (C := C1) 0 0 L.length
    case hi => rfl
    case hn => rfl
    case hr => exact (List.take_of_length_le (by simp))
    case hnn => exact Nat.ne_of_beq_eq_false rfl
    case hnx => exact Nat.le_of_ble_eq_true rfl
    (apply fin_ownr (rs := [.tmp 6, .tmp 7]) [(2, 1)] 2; (case hr => (repeat (first | exact resok_nil | (apply resok_tmp; rfl) | (apply resok_cell; rfl; rfl; rfl; rfl; rfl)))); (case hL => rfl); (case hh => (apply hsok_dead 0; exact maps_low rfl; (repeat (first | exact hsok_nil | refine q_id ?_ | refine q_idx ?_ ?_))); all_goals trace_state); (case hi => first | exact (rfl : _ = ([] : List (Nat × Nat))) | exact (rfl : _ = [((0 : Nat), (0 : Nat))]) | exact (rfl : _ = [((0 : Nat), (0 : Nat)), (1, 1)])); (case hz => first | rfl | (simp [pack, AV.ren, AV.ren.renL, lookN, getT, enumT]; done) | (simp [pack, AV.ren, AV.ren.renL, lookN, getT, enumT, *]; done) | trace_state))
  · rw [if_neg h60] at hE
    subst hE
    refine acall_intro (C := C1) Tryz.func175 rfl _ Tryz.ntmps175 (Nat.le_of_ble_eq_true rfl) _ Tryz.results175 1 rfl rfl ?_
    repeat' (first | refine walk ?_ | (first | (apply to_call Tryz.func190 rfl rfl; intro hIsFn; refine o_callh ([0]) 0 hIsFn (hwo ..) ?_)) | ((first | (apply ops_split_t; rfl; rfl; exact nle rfl) | (apply ops_split_f; rfl; rfl; exact nle rfl) | (apply awp_cond; rfl)); all_goals (intro hc; have hp := hc; first | (simp at hp; done) | ((try simp at hp); first | (exfalso; omega) | skip))) | (apply awp_cond_any; rfl))
    all_goals try (exfalso; omega)
    apply fin_move (C := C1) 6 0 L.length
    case hi => rfl
    case hn => rfl
    case hr => exact (List.take_of_length_le (by simp))
    case hnn => exact Nat.ne_of_beq_eq_false rfl
    case hnx => exact Nat.le_of_ble_eq_true rfl
    (apply fin_ownr (rs := [.tmp 6, .tmp 7]) [(2, 1)] 2; (case hr => (repeat (first | exact resok_nil | (apply resok_tmp; rfl) | (apply resok_cell; rfl; rfl; rfl; rfl; rfl)))); (case hL => rfl); (case hh => (apply hsok_dead 0; exact maps_low rfl; (repeat (first | exact hsok_nil | refine q_id ?_ | refine q_idx ?_ ?_))); all_goals trace_state); (case hi => first | exact (rfl : _ = ([] : List (Nat × Nat))) | exact (rfl : _ = [((0 : Nat), (0 : Nat))]) | exact (rfl : _ = [((0 : Nat), (0 : Nat)), (1, 1)])); (case hz => first | rfl | (simp [pack, AV.ren, AV.ren.renL, lookN, getT, enumT]; done) | (simp [pack, AV.ren, AV.ren.renL, lookN, getT, enumT, *]; done) | trace_state))
end Go.Proofs.YtiljlcgmcmjcoaaGreatDoor

/- Trees, plain, 2: what put makes; what is right. -/
set_option linter.unusedSimpArgs false
set_option linter.unnecessarySimpa false
set_option linter.unusedVariables false
namespace Go.Proofs.YtiljlcgmcmjcoaaGreatDoor
open Go.Op

theorem bl_ne {a b : Str} (h : bytesLess a b = true) : ¬ a = b := fun e => by rw [e, bl_irr] at h; cases h
theorem bl_tot {a b : Str} (h1 : bytesLess a b = false) (h2 : ¬ a = b) : bytesLess b a = true := by
  rcases bl_tri a b with ⟨h, _, _⟩ | ⟨h, _, _⟩ | ⟨h, _, _⟩
  · rw [h] at h1; cases h1
  · exact absurd h h2
  · exact h
/-- Entries that are right, parted at a place. -/
theorem splitE (p : Str) : ∀ {t : List Ent}, t.Pairwise (fun a b => bytesLess a.path b.path = true) → ∃ A M Z, t = A ++ (M ++ Z) ∧ posE t p = A.length ∧ (∀ a, a ∈ A → bytesLess a.path p = true) ∧ (∀ z, z ∈ Z → bytesLess p z.path = true) ∧
    ((hitE t p = true ∧ ∃ x, M = [x] ∧ x.path = p) ∨ (hitE t p = false ∧ M = []))
  | [], _ => ⟨[], [], [], rfl, rfl, nofun, nofun, .inr ⟨rfl, rfl⟩⟩
  | x :: l, h => by
    obtain ⟨h1, h2⟩ := List.pairwise_cons.1 h
    by_cases hx : bytesLess x.path p = true
    · obtain ⟨A, M, Z, rfl, hp, hA, hZ, hM⟩ := splitE p h2
      have hp' : posE (x :: (A ++ (M ++ Z))) p = A.length + 1 := by
        simp only [posE, List.takeWhile_cons, hx, if_true, List.length_cons] at hp ⊢; omega
      have hh : hitE (x :: (A ++ (M ++ Z))) p = hitE (A ++ (M ++ Z)) p := by
        simp [hitE, atP, bl_ne hx]
      refine ⟨x :: A, M, Z, rfl, hp', fun a ha => ?_, hZ, by rw [hh]; exact hM⟩
      rcases List.mem_cons.1 ha with rfl | ha
      · exact hx
      · exact hA a ha
    · have hx : bytesLess x.path p = false := by simpa using hx
      have hp : posE (x :: l) p = 0 := by simp [posE, List.takeWhile_cons, hx]
      by_cases e : x.path = p
      · subst e
        exact ⟨[], [x], l, rfl, hp, nofun, fun z hz => h1 z hz, .inl ⟨by simp [hitE, atP], x, rfl, rfl⟩⟩
      · have hg := bl_tot hx e
        have hall : ∀ z, z ∈ x :: l → bytesLess p z.path = true := fun z hz => by
          rcases List.mem_cons.1 hz with rfl | hz
          · exact hg
          · exact bl_trans hg (h1 z hz)
        refine ⟨[], [], x :: l, rfl, hp, nofun, hall, .inr ⟨List.any_eq_false.2 fun z hz => ?_, rfl⟩⟩
        have := bl_ne (hall z hz)
        simp only [atP, decide_eq_true_eq]
        exact fun e => this e.symm
theorem putT_split {t A M Z : List Ent} {x : Ent} (h : t = A ++ (M ++ Z)) (hp : posE t x.path = A.length) (hM : (hitE t x.path = true ∧ ∃ y, M = [y] ∧ y.path = x.path) ∨ (hitE t x.path = false ∧ M = [])) : putT t x = A ++ ([x] ++ Z) := by
  unfold putT
  rw [hp]
  have h1 : t.take A.length = A := by rw [h]; simp
  rw [h1]
  rcases hM with ⟨hh, y, rfl, _⟩ | ⟨hh, rfl⟩
  · simp only [hh, if_true]; rw [h]; simp
  · simp only [hh, Bool.false_eq_true, if_false]; rw [h]; simp
theorem putT_len (t : List Ent) (x : Ent) : (putT t x).length ≤ t.length + 1 := by
  unfold putT; split <;> simp <;> omega
theorem putT_rising {t : List Ent} {x : Ent} (hs : rising entLt t = true) : rising entLt (putT t x) = true := by
  have hl := rising_pairE.1 hs
  obtain ⟨A, M, Z, h, hp, hA, hZ, hM⟩ := splitE x.path hl
  rw [putT_split h hp hM]
  refine rising_pairE.2 ?_
  have hsub : (A ++ Z).Sublist t := by
    rw [h]; exact List.Sublist.append_left (List.sublist_append_right _ _) _
  obtain ⟨pA, pZ, pAZ⟩ := List.pairwise_append.1 (hl.sublist hsub)
  refine List.pairwise_append.2 ⟨pA, List.pairwise_cons.2 ⟨fun z hz => hZ z hz, pZ⟩, fun a ha b hb => ?_⟩
  rcases List.mem_cons.1 hb with rfl | hb
  · exact hA a ha
  · exact pAZ a ha b hb
theorem keepE_rising {p : Ent → Bool} {t : List Ent} (hs : rising entLt t = true) : rising entLt (keepE p t) = true := rising_pairE.2 ((rising_pairE.1 hs).sublist List.filter_sublist)
theorem putAll_rising : ∀ {l t : List Ent}, rising entLt t = true → rising entLt (l.foldl putT t) = true
  | [], _, h => h
  | x :: l, t, h => putAll_rising (l := l) (putT_rising h)
theorem putAll_len : ∀ (l t : List Ent), (l.foldl putT t).length ≤ t.length + l.length
  | [], _ => by simp
  | x :: l, t => by
    have h1 := putAll_len l (putT t x)
    have h2 := putT_len t x
    simp only [List.foldl_cons, List.length_cons]; omega
theorem putAll_succ {l t : List Ent} {i : Nat} (h : i < l.length) : (l.take (i + 1)).foldl putT t = putT ((l.take i).foldl putT t) l[i] := by
  rw [List.take_succ_eq_append_getElem h, List.foldl_append]; rfl
theorem pathErr_small {p : Str} (h : pathErr p = 0) : p.length ≤ 80 := by
  have : tooGreat p = false := by
    unfold pathErr at h
    split at h
    · split at h
      · exact absurd h (by decide)
      · rename_i h2; simpa using h2
    · exact absurd h (by decide)
  simp [tooGreat] at this; omega
theorem moved_right {p f t : Str} (hp : pathErr p = 0) (hf : pathErr f = 0) (ht : pathErr t = 0) (hi : inB p f = true) : movedErr p f t = if tooGreat (t ++ p.drop f.length) = true then 2 else 0 := by
  unfold movedErr
  rw [if_pos (by simp [pathsErr, hp, hf, ht]), if_pos hi]
theorem goes_succ {t : List Ent} {c : Chg} {v : Int} {i : Nat} (h : i < t.length) : goesOf (t.take (i + 1)) c v = if inB t[i].path c.path = true then goesOf (t.take i) c v ++ [moveTo c v t[i]] else goesOf (t.take i) c v := by
  unfold goesOf
  rw [List.take_succ_eq_append_getElem h, List.filter_append]
  cases hs : inB t[i].path c.path <;> simp [hs, inP]
end Go.Proofs.YtiljlcgmcmjcoaaGreatDoor
