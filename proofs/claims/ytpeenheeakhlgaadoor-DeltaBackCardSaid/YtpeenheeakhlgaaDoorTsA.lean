import Derived.Test.YtpeenheeakhlgaaDoorTrA
import Derived.Test.YtpeenheeakhlgaaDoorLyC
/- Changes in the abstract layer, 1: their form; may they be made? -/
set_option linter.unusedSimpArgs false
set_option linter.unnecessarySimpa false
set_option linter.unusedVariables false
set_option maxHeartbeats 1000000
namespace Go.Proofs.YtpeenheeakhlgaaDoor
open Go.Ab Go.RowKit
set_option maxRecDepth 10000
attribute [local irreducible] Awp Ops OpsX Wanted Red ExOk Go.Ab.Fin ACall Rz RzL RzRows Enters ResOk RenV RenVL ArgV ArgVL

def chgRest (c : Chg) : Int := if (¬ c.kind = 3 ∧ ¬ c.to = []) ∨ (¬ c.kind = 2 ∧ ¬ c.text = []) then 1 else if 300 < c.text.length then 2 else if c.base < -1 ∨ 1000000 < c.base then 3 else 0
def chgErr (c : Chg) : Int :=
  if c.kind < 1 ∨ 4 < c.kind then 7
  else if ¬ pathErr c.path = 0 then pathErr c.path
  else if c.kind = 3 ∧ ¬ pathErr c.to = 0 then pathErr c.to
  else chgRest c
theorem a_form (c : Chg) (hc : c.small) : AFn C.P 59 [.agg c.row] (.v (.int .i64 (chgErr c))) := by
  obtain ⟨h1, h2, h3⟩ := hc
  have hpp := a_pcheck c.path (by omega)
  have ht := a_pcheck c.to (by omega)
  have hR : chgRest c = if (¬ c.kind = 3 ∧ ¬ c.to = []) ∨ (¬ c.kind = 2 ∧ ¬ c.text = []) then 1 else if 300 < c.text.length then 2 else if c.base < -1 ∨ 1000000 < c.base then 3 else 0 := rfl
  have hE : chgErr c = if c.kind < 1 ∨ 4 < c.kind then 7 else if ¬ pathErr c.path = 0 then pathErr c.path else if c.kind = 3 ∧ ¬ pathErr c.to = 0 then pathErr c.to else chgRest c := rfl
  generalize chgErr c = E at *
  generalize chgRest c = R at *
  generalize pathErr c.path = F at *
  generalize pathErr c.to = G at *
  refine acall_intro Tryd.func59 rfl _ Tryd.ntmps59 (Nat.le_of_ble_eq_true rfl) _ Tryd.results59 0 rfl rfl ?_
  repeat' (first | refine walk ?_ | (first | (apply to_call Tryd.func52 rfl rfl; intro hIsFn; refine o_callf hIsFn (hpp ..) ?_; skip) | (apply to_call Tryd.func52 rfl rfl; intro hIsFn; refine o_callf hIsFn (ht ..) ?_; skip)) | ((first | (apply ops_split_t; rfl; rfl; exact nle rfl) | (apply ops_split_f; rfl; rfl; exact nle rfl) | (apply awp_cond; rfl)); all_goals (intro hc; have hp := hc; first | (simp at hp; done) | ((try simp at hp); first | (exfalso; omega) | skip))) | (apply awp_cond_any; rfl))
  all_goals try (exfalso; omega)
  all_goals (apply fin_int; rfl)
  all_goals (rw [hE])
  all_goals first
    | (rw [if_pos (by omega)]; done)
    | (rw [if_neg (by omega)]
       first
       | (rw [if_pos (by assumption)]; done)
       | (rw [if_neg (by omega)]
          first
          | (rw [if_pos ⟨by assumption, by assumption⟩]; done)
          | (rw [if_neg (by rintro ⟨_, _⟩; simp_all), hR]
             first
             | (rw [if_pos (by simp_all)]; done)
             | (rw [if_neg (by simp_all)]
                first
                | (rw [if_pos (by omega)]; done)
                | (rw [if_neg (by omega)]
                   first
                   | (rw [if_pos (by omega)]; done)
                   | (rw [if_neg (by omega)]; done))))))
end Go.Proofs.YtpeenheeakhlgaaDoor

/- Changes in the abstract layer, 2: may one be made? -/
set_option linter.unusedSimpArgs false
set_option linter.unnecessarySimpa false
set_option linter.unusedVariables false
set_option maxHeartbeats 1000000
namespace Go.Proofs.YtpeenheeakhlgaaDoor
open Go.Ab Go.RowKit
set_option maxRecDepth 10000
attribute [local irreducible] Awp Ops OpsX Wanted Red ExOk Go.Ab.Fin ACall Rz RzL RzRows Enters ResOk RenV RenVL ArgV ArgVL

theorem a_indexE (p : Ent → Bool) (g : FuncId) (hg : IsFn C.P g) (cap : List AV) (hcap : AV.pure.pureL cap = true) (l : List (Ent)) (hl : l.length ≤ 1000000) (hc : ∀ s, s ∈ l → AFn C.P g ((AV.agg (Ent.row s)) :: cap) (.v (.bool (p s)))) :
    AFn C.P 81 [.sl false (l.map Ent.row), .clo (.func g) [] cap] (.v (.int .i64 (idxOf p l))) := by
  refine acall_intro Tryd.func81 rfl _ Tryd.ntmps81 (Nat.le_of_ble_eq_true rfl) _ Tryd.results81 0 rfl rfl ?_
  repeat' (first | refine walk ?_ | fail | ((first | (apply awp_cond; rfl)); all_goals (intro hc; have hp := hc; first | (simp at hp; done) | ((try simp at hp); first | (exfalso; omega) | skip))) | (apply awp_cond_any; rfl))
  (refine Awp.red (red_pure (ts := [(0, .sl false (l.map Ent.row)), (1, .clo (.func g) [] cap), (7, .v (.int .i64 l.length)), (8, .v (.int .i64 ((0 : Nat) : Int)))]) ?_) ?_; ((repeat (first | exact tsok_nil | refine p_pure ?_ | refine p_eq ?_ ?_))))
  all_goals try (rw [List.length_map]; done)
  refine awp_loop (fun n σ => ∃ i : Nat, i ≤ l.length ∧ n = l.length - i ∧ (∀ s, s ∈ l.take i → p s = false) ∧ σ = ⟨[(0, .sl false (l.map Ent.row)), (1, .clo (.func g) [] cap), (7, .v (.int .i64 l.length)), (8, .v (.int .i64 (i : Int)))], [], C.nh⟩) l.length ⟨0, Nat.zero_le _, rfl, (by simp), rfl⟩ ?_
  rintro n σ ⟨i, hi, rfl, hsofar, rfl⟩
  by_cases hlt : i < l.length
  · have hr := getRow (f := Ent.row) hlt
    have hci := hc l[i] (List.getElem_mem _)
    repeat' (first | refine walk ?_ | (first | (apply opsx_val; apply ex_callv []; rfl; exact hg; exact hci; (case hz => exact rzl_cons (rz_pure rfl) (rzl_self hcap)); (case hfl => rfl); (case hN => exact nle rfl))) | ((first | (apply awp_cond; rfl)); all_goals (intro hc; have hp := hc; first | (simp at hp; done) | ((try simp at hp); first | (exfalso; omega) | skip))) | (apply awp_cond_any; rfl))
    all_goals try (exfalso; omega)
    · apply fin_int
      rfl
      exact (idxOf_at hlt hsofar hp).symm
    · refine ⟨l.length - (i + 1), _, by omega, red_pure (ts := [(0, .sl false (l.map Ent.row)), (1, .clo (.func g) [] cap), (7, .v (.int .i64 l.length)), (8, .v (.int .i64 ((i + 1 : Nat) : Int)))]) ?_, i + 1, by omega, rfl, mem_take_succ hlt hsofar hp, rfl⟩; ((repeat (first | exact tsok_nil | refine p_pure ?_ | refine p_eq ?_ ?_)))
  obtain rfl : i = l.length := by omega
  repeat' (first | refine walk ?_ | fail | ((first | (apply awp_cond; rfl)); all_goals (intro hc; have hp := hc; first | (simp at hp; done) | ((try simp at hp); first | (exfalso; omega) | skip))) | (apply awp_cond_any; rfl))
  all_goals try (exfalso; omega)
  apply fin_int
  rfl
  exact (idxOf_none fun s hs => hsofar s (by rw [List.take_length]; exact hs)).symm
theorem a_containsE (p : Ent → Bool) (g : FuncId) (hg : IsFn C.P g) (cap : List AV) (hcap : AV.pure.pureL cap = true) (l : List (Ent)) (hl : l.length ≤ 1000000) (hc : ∀ s, s ∈ l → AFn C.P g ((AV.agg (Ent.row s)) :: cap) (.v (.bool (p s)))) :
    AFn C.P 71 [.sl false (l.map Ent.row), .clo (.func g) [] cap] (.v (.bool (l.any p))) := by
  have hidx := a_indexE p g hg cap hcap l hl hc
  refine acall_intro Tryd.func71 rfl _ Tryd.ntmps71 (Nat.le_of_ble_eq_true rfl) _ Tryd.results71 0 rfl rfl ?_
  repeat' (first | refine walk ?_ | (first | (apply opsx_val; apply ex_call []; exact isFn_of Tryd.func81 rfl rfl; exact hidx; (case hz => exact rzl_cons (rz_pure rfl) (rzl_cons (rz_clo_pure hcap) rzl_nil)); (case hfl => rfl); (case hN => exact nle rfl))) | ((first | (apply awp_cond; rfl)); all_goals (intro hc; have hp := hc; first | (simp at hp; done) | ((try simp at hp); first | (exfalso; omega) | skip))) | (apply awp_cond_any; rfl))
  apply fin_bool
  rfl
  rw [← idxOf_any]
def goalOf (c : Chg) : Str := if c.kind = 3 then c.to else c.path
def newer (c : Chg) (x : Ent) : Bool := decide (c.base < x.ver) && inB x.path c.path
def foldAt (t : List Ent) (p : Str) : Bool := match t.find? (atP p) with | some x => x.fold | none => false
def isErr (t : List Ent) (c : Chg) : Int := if c.kind = 1 then (if hitE t c.path = true then 6 else 0) else if c.kind = 2 then (if foldAt t c.path = true then 4 else 0) else (if hitE t c.path = true then 0 else 5)
def mvErr (t : List Ent) (c : Chg) : Int := if c.kind = 3 then (if inB c.to c.path = true then 3 else if hitE t c.to = true then 6 else 0) else 0
def staleErr (t : List Ent) (c : Chg) : Int := if ¬ c.base = -1 ∧ t.any (newer c) = true then 8 else 0
def mayErr (t : List Ent) (c : Chg) : Int :=
  if ¬ folderErr t (parentOf (goalOf c)) = 0 then folderErr t (parentOf (goalOf c))
  else if ¬ isErr t c = 0 then isErr t c
  else if ¬ mvErr t c = 0 then mvErr t c else staleErr t c
theorem a_mayC (x : Ent) (c : Chg) (hc : c.path.length ≤ 140737488355328) : AFn C.P 70 [.agg x.row, .fp [c.row] 0 0] (.v (.bool (newer c x))) := by
  have hin := a_in x.path c.path hc
  have hE : newer c x = (decide (c.base < x.ver) && inB x.path c.path) := rfl
  generalize newer c x = E at *
  generalize inB x.path c.path = I at *
  refine acall_intro Tryd.func70 rfl _ Tryd.ntmps70 (Nat.le_of_ble_eq_true rfl) _ Tryd.results70 0 rfl rfl ?_
  repeat' (first | refine walk ?_ | (first | (apply to_call Tryd.func57 rfl rfl; intro hIsFn; refine o_callf hIsFn (hin ..) ?_; skip)) | ((first | (apply ops_split_t; rfl; rfl; exact nle rfl) | (apply ops_split_f; rfl; rfl; exact nle rfl) | (apply awp_cond; rfl)); all_goals (intro hc; have hp := hc; first | (simp at hp; done) | ((try simp at hp); first | (exfalso; omega) | skip))) | (apply awp_cond_any; rfl))
  all_goals (apply fin_bool; rfl; rw [hE]; simp_all; try (intro _; omega))
theorem a_may (t : List Ent) (c : Chg) (hl : t.length ≤ 1000000) (hs : rising entLt t = true) (hcs : c.small) : AFn C.P 60 [entAV t, .agg c.row] (.v (.int .i64 (mayErr t c))) := by
  obtain ⟨l1, l2, l3⟩ := hcs
  have hpa := a_parentT t (goalOf c) (by omega) hs (by unfold goalOf; split <;> omega)
  have hfe := parEnt_err t (goalOf c)
  have hat := a_at t c.path (by omega) hs
  have hat2 := a_at t c.to (by omega) hs
  have hin := a_in c.to c.path (by omega)
  have hcon := a_containsE (newer c) 70 (isFn_of Tryd.func70 rfl rfl) [.fp [c.row] 0 0] rfl t hl (fun x _ => a_mayC x c (by omega))
  have hE : mayErr t c = if ¬ folderErr t (parentOf (goalOf c)) = 0 then folderErr t (parentOf (goalOf c)) else if ¬ isErr t c = 0 then isErr t c else if ¬ mvErr t c = 0 then mvErr t c else staleErr t c := rfl
  have hI : isErr t c = if c.kind = 1 then (if hitE t c.path = true then 6 else 0) else if c.kind = 2 then (if foldAt t c.path = true then 4 else 0) else (if hitE t c.path = true then 0 else 5) := rfl
  have hM : mvErr t c = if c.kind = 3 then (if inB c.to c.path = true then 3 else if hitE t c.to = true then 6 else 0) else 0 := rfl
  have hS : staleErr t c = if ¬ c.base = -1 ∧ t.any (newer c) = true then 8 else 0 := rfl
  have hrow : hitE t c.path = true → ∃ hk : posE t c.path < t.length, foldAt t c.path = t[posE t c.path].fold := fun h => by
    obtain ⟨hk, _, hfi, _⟩ := hitE_at hs h
    exact ⟨hk, by unfold foldAt; rw [hfi]⟩
  have hnorow : hitE t c.path = false → foldAt t c.path = false := fun h => by
    unfold foldAt; rw [(hitE_none h).1]
  have hg3 : c.kind = 3 → goalOf c = c.to := fun h => by simp [goalOf, h]
  have hg0 : ¬ c.kind = 3 → goalOf c = c.path := fun h => by simp [goalOf, h]
  generalize mayErr t c = E at *
  generalize isErr t c = I at *
  generalize mvErr t c = Mv at *
  generalize staleErr t c = S at *
  generalize t.any (newer c) = NW at *
  generalize inB c.to c.path = IB at *
  generalize hitE t c.to = HT at *
  generalize posE t c.to = PT at *
  generalize folderErr t (parentOf (goalOf c)) = FE at *
  generalize parOk t (goalOf c) = OK at *
  generalize parEnt t (goalOf c) = PE at *
  cases hh : hitE t c.path with
  | true =>
    obtain ⟨hk, hfo⟩ := hrow hh
    rw [hh] at hat hI
    rw [hfo] at hI
    have hr := getRow (f := Ent.row) hk
    clear hrow hnorow
    generalize posE t c.path = k at *
    by_cases k3 : c.kind = 3
    · rw [hg3 k3] at hpa
      refine acall_intro Tryd.func60 rfl _ Tryd.ntmps60 (Nat.le_of_ble_eq_true rfl) _ Tryd.results60 0 rfl rfl ?_
      repeat' (first | refine walk ?_ | (first | (apply to_call Tryd.func69 rfl rfl; intro hIsFn; refine o_callp hIsFn (hpa ..) ?_) | (apply to_call Tryd.func53 rfl rfl; intro hIsFn; refine o_callp hIsFn (hat ..) ?_) | (apply to_call Tryd.func53 rfl rfl; intro hIsFn; refine o_callp hIsFn (hat2 ..) ?_) | (apply to_call Tryd.func57 rfl rfl; intro hIsFn; refine o_callf hIsFn (hin ..) ?_; skip) | (apply opsx_val; apply ex_call ([0]); exact isFn_of Tryd.func71 rfl rfl; exact hcon; (case hz => (refine rzl_cons (rz_pure rfl) (rzl_cons (rz_clo rzl_nil (rzl_cons (rz_op rfl (by simp) (rzrows_pure (fun row hrow => by rw [List.mem_singleton.1 hrow]; rfl))) rzl_nil)) rzl_nil))); (case hfl => rfl); (case hN => exact nle rfl))) | ((first | (apply ops_split_t; rfl; rfl; exact nle rfl) | (apply ops_split_f; rfl; rfl; exact nle rfl) | (apply awp_cond; rfl)); all_goals (intro hc; have hp := hc; first | (simp at hp; done) | ((try simp at hp); first | (exfalso; omega) | skip))) | (apply awp_cond_any; rfl))
      all_goals try (exfalso; omega)
      all_goals (apply fin_int; rfl; clear hat hat2 hcon hpa hin; simp_all)
    · rw [hg0 k3] at hpa
      refine acall_intro Tryd.func60 rfl _ Tryd.ntmps60 (Nat.le_of_ble_eq_true rfl) _ Tryd.results60 0 rfl rfl ?_
      repeat' (first | refine walk ?_ | (first | (apply to_call Tryd.func69 rfl rfl; intro hIsFn; refine o_callp hIsFn (hpa ..) ?_) | (apply to_call Tryd.func53 rfl rfl; intro hIsFn; refine o_callp hIsFn (hat ..) ?_) | (apply to_call Tryd.func53 rfl rfl; intro hIsFn; refine o_callp hIsFn (hat2 ..) ?_) | (apply to_call Tryd.func57 rfl rfl; intro hIsFn; refine o_callf hIsFn (hin ..) ?_; skip) | (apply opsx_val; apply ex_call ([0]); exact isFn_of Tryd.func71 rfl rfl; exact hcon; (case hz => (refine rzl_cons (rz_pure rfl) (rzl_cons (rz_clo rzl_nil (rzl_cons (rz_op rfl (by simp) (rzrows_pure (fun row hrow => by rw [List.mem_singleton.1 hrow]; rfl))) rzl_nil)) rzl_nil))); (case hfl => rfl); (case hN => exact nle rfl))) | ((first | (apply ops_split_t; rfl; rfl; exact nle rfl) | (apply ops_split_f; rfl; rfl; exact nle rfl) | (apply awp_cond; rfl)); all_goals (intro hc; have hp := hc; first | (simp at hp; done) | ((try simp at hp); first | (exfalso; omega) | skip))) | (apply awp_cond_any; rfl))
      all_goals try (exfalso; omega)
      all_goals (apply fin_int; rfl; clear hat hat2 hcon hpa hin; simp_all)
  | false =>
    have hfo := hnorow hh
    rw [hh] at hat hI
    rw [hfo] at hI
    clear hrow hnorow
    generalize posE t c.path = k at *
    by_cases k3 : c.kind = 3
    · rw [hg3 k3] at hpa
      refine acall_intro Tryd.func60 rfl _ Tryd.ntmps60 (Nat.le_of_ble_eq_true rfl) _ Tryd.results60 0 rfl rfl ?_
      repeat' (first | refine walk ?_ | (first | (apply to_call Tryd.func69 rfl rfl; intro hIsFn; refine o_callp hIsFn (hpa ..) ?_) | (apply to_call Tryd.func53 rfl rfl; intro hIsFn; refine o_callp hIsFn (hat ..) ?_) | (apply to_call Tryd.func53 rfl rfl; intro hIsFn; refine o_callp hIsFn (hat2 ..) ?_) | (apply to_call Tryd.func57 rfl rfl; intro hIsFn; refine o_callf hIsFn (hin ..) ?_; skip)) | ((first | (apply ops_split_t; rfl; rfl; exact nle rfl) | (apply ops_split_f; rfl; rfl; exact nle rfl) | (apply awp_cond; rfl)); all_goals (intro hc; have hp := hc; first | (simp at hp; done) | ((try simp at hp); first | (exfalso; omega) | skip))) | (apply awp_cond_any; rfl))
      all_goals try (exfalso; omega)
      all_goals (apply fin_int; rfl; clear hat hat2 hcon hpa hin; simp_all)
    · rw [hg0 k3] at hpa
      refine acall_intro Tryd.func60 rfl _ Tryd.ntmps60 (Nat.le_of_ble_eq_true rfl) _ Tryd.results60 0 rfl rfl ?_
      repeat' (first | refine walk ?_ | (first | (apply to_call Tryd.func69 rfl rfl; intro hIsFn; refine o_callp hIsFn (hpa ..) ?_) | (apply to_call Tryd.func53 rfl rfl; intro hIsFn; refine o_callp hIsFn (hat ..) ?_) | (apply to_call Tryd.func53 rfl rfl; intro hIsFn; refine o_callp hIsFn (hat2 ..) ?_) | (apply to_call Tryd.func57 rfl rfl; intro hIsFn; refine o_callf hIsFn (hin ..) ?_; skip) | (apply opsx_val; apply ex_call ([0]); exact isFn_of Tryd.func71 rfl rfl; exact hcon; (case hz => (refine rzl_cons (rz_pure rfl) (rzl_cons (rz_clo rzl_nil (rzl_cons (rz_op rfl (by simp) (rzrows_pure (fun row hrow => by rw [List.mem_singleton.1 hrow]; rfl))) rzl_nil)) rzl_nil))); (case hfl => rfl); (case hN => exact nle rfl))) | ((first | (apply ops_split_t; rfl; rfl; exact nle rfl) | (apply ops_split_f; rfl; rfl; exact nle rfl) | (apply awp_cond; rfl)); all_goals (intro hc; have hp := hc; first | (simp at hp; done) | ((try simp at hp); first | (exfalso; omega) | skip))) | (apply awp_cond_any; rfl))
      all_goals try (exfalso; omega)
      all_goals (apply fin_int; rfl; clear hat hat2 hcon hpa hin; simp_all)
end Go.Proofs.YtpeenheeakhlgaaDoor

/- Changes in the abstract layer, 3: Clone, Insert, put. -/
set_option linter.unusedSimpArgs false
set_option linter.unnecessarySimpa false
set_option linter.unusedVariables false
set_option maxHeartbeats 1000000
namespace Go.Proofs.YtpeenheeakhlgaaDoor
open Go.Ab Go.RowKit
set_option maxRecDepth 10000
attribute [local irreducible] Awp Ops OpsX Wanted Red ExOk Go.Ab.Fin ACall Rz RzL RzRows Enters ResOk RenV RenVL ArgV ArgVL

theorem a_cloneE (l : List Ent) (hl : l.length ≤ 1000000) :
    ACall C.P 51 [entAV l] [] (.os 0 0 l.length) [.own false 4 (l.map Ent.row)] := by
  by_cases h0 : l = []
  · subst h0
    refine acall_intro Tryd.func51 rfl _ Tryd.ntmps51 (Nat.le_of_ble_eq_true rfl) _ Tryd.results51 0 rfl rfl ?_
    repeat' (first | refine walk ?_ | (first | (refine o_fzl ?_) | (refine o_appn ?_) | (refine o_isnil ?_)) | ((first | (apply awp_cond; rfl)); all_goals (intro hc; have hp := hc; first | (simp at hp; done) | ((try simp at hp); first | (exfalso; omega) | skip))) | (apply awp_cond_any; rfl))
    · (refine fin_red (C := C) (red_nil (C := C) 2 4 rfl (Nat.zero_le _)) ?_)
      (apply fin_ownr (rs := [.tmp 2]) [(0, 0)] 1; (case hr => (repeat (first | exact resok_nil | (apply resok_tmp; rfl) | (apply resok_cell; rfl; rfl; rfl; rfl; rfl)))); (case hL => rfl); (case hh => (repeat (first | exact hsok_nil | refine q_id ?_ | refine q_idx ?_ ?_)); all_goals skip); (case hi => first | exact (rfl : _ = ([] : List (Nat × Nat))) | exact (rfl : _ = [((0 : Nat), (0 : Nat))]) | exact (rfl : _ = [((0 : Nat), (0 : Nat)), (1, 1)])); (case hz => first | rfl | (simp [pack, AV.ren, AV.ren.renL, lookN, getT, enumT]; done) | (simp [pack, AV.ren, AV.ren.renL, lookN, getT, enumT, *]; done) | skip))
    · (apply fin_ownr (rs := [.tmp 2]) [(0, 0)] 1; (case hr => (repeat (first | exact resok_nil | (apply resok_tmp; rfl) | (apply resok_cell; rfl; rfl; rfl; rfl; rfl)))); (case hL => rfl); (case hh => (repeat (first | exact hsok_nil | refine q_id ?_ | refine q_idx ?_ ?_)); all_goals skip); (case hi => first | exact (rfl : _ = ([] : List (Nat × Nat))) | exact (rfl : _ = [((0 : Nat), (0 : Nat))]) | exact (rfl : _ = [((0 : Nat), (0 : Nat)), (1, 1)])); (case hz => first | rfl | (simp [pack, AV.ren, AV.ren.renL, lookN, getT, enumT]; done) | (simp [pack, AV.ren, AV.ren.renL, lookN, getT, enumT, *]; done) | skip))
  · refine acall_intro Tryd.func51 rfl _ Tryd.ntmps51 (Nat.le_of_ble_eq_true rfl) _ Tryd.results51 0 rfl rfl ?_
    repeat' (first | refine walk ?_ | (first | (refine o_fzl ?_) | (refine o_appn ?_) | (apply opsx_val; apply ex_notnil; rfl; exact (fun h => h0 (List.map_eq_nil_iff.1 h)); rfl; rfl; (first | exact .inl rfl | exact .inr rfl); exact nle rfl)) | ((first | (apply awp_cond; rfl)); all_goals (intro hc; have hp := hc; first | (simp at hp; done) | ((try simp at hp); first | (exfalso; omega) | skip))) | (apply awp_cond_any; rfl))
    (apply fin_ownr (rs := [.tmp 2]) [(0, 0)] 1; (case hr => (repeat (first | exact resok_nil | (apply resok_tmp; rfl) | (apply resok_cell; rfl; rfl; rfl; rfl; rfl)))); (case hL => rfl); (case hh => (repeat (first | exact hsok_nil | refine q_id ?_ | refine q_idx ?_ ?_)); all_goals skip); (case hi => first | exact (rfl : _ = ([] : List (Nat × Nat))) | exact (rfl : _ = [((0 : Nat), (0 : Nat))]) | exact (rfl : _ = [((0 : Nat), (0 : Nat)), (1, 1)])); (case hz => first | rfl | (simp [pack, AV.ren, AV.ren.renL, lookN, getT, enumT]; done) | (simp [pack, AV.ren, AV.ren.renL, lookN, getT, enumT, *]; done) | skip))

theorem a_insertEnd (l : List Ent) (g : Ent) (hl : l.length ≤ 1000000) :
    ACall C1.P 82 [.os 0 0 l.length, .v (.int .i64 l.length), .sl false [g.row]] [.own false 4 (l.map Ent.row)] (.os 1 0 (l.length + 1)) [.dead, .own false 4 ((l ++ [g]).map Ent.row)] := by
  refine acall_intro (C := C1) Tryd.func82 rfl _ Tryd.ntmps82 (Nat.le_of_ble_eq_true rfl) _ Tryd.results82 1 rfl rfl ?_
  repeat' (first | refine walk ?_ | (first | (refine o_slo ?_) | (refine o_appo ?_)) | ((first | (apply ops_split_t; rfl; rfl; exact nle rfl) | (apply ops_split_f; rfl; rfl; exact nle rfl) | (apply awp_cond; rfl)); all_goals (intro hc; have hp := hc; first | (simp at hp; done) | ((try simp at hp); first | (exfalso; omega) | skip))) | (apply awp_cond_any; rfl))
  (apply fin_ownr (rs := [.tmp 6]) [(1, 1)] 2; (case hr => (repeat (first | exact resok_nil | (apply resok_tmp; rfl) | (apply resok_cell; rfl; rfl; rfl; rfl; rfl)))); (case hL => rfl); (case hh => (apply hsok_dead 0; exact maps_low rfl; (repeat (first | exact hsok_nil | refine q_id ?_ | refine q_idx ?_ ?_))); all_goals trace_state); (case hi => first | exact (rfl : _ = ([] : List (Nat × Nat))) | exact (rfl : _ = [((0 : Nat), (0 : Nat))]) | exact (rfl : _ = [((0 : Nat), (0 : Nat)), (1, 1)])); (case hz => first | rfl | (simp [pack, AV.ren, AV.ren.renL, lookN, getT, enumT]; done) | (simp [pack, AV.ren, AV.ren.renL, lookN, getT, enumT, *]; done) | skip))
theorem ins_new {α : Type} (R J Z : List α) (x : α) {i a b c d : Nat} (hi : i ≤ R.length) (hJ : J.length = 1 + Z.length) (ha : a = i) (hb : b = i + 1) (hc : c = i + 1) (hd : d = i + 1 + Z.length) :
    ((R.take i ++ J).take a ++ [x] ++ (R.take i ++ J).drop b).take c ++ Z ++ ((R.take i ++ J).take a ++ [x] ++ (R.take i ++ J).drop b).drop d = R.take i ++ ([x] ++ Z) := by
  subst ha; subst hb; subst hc; subst hd
  have h1 : (R.take a ++ J).take a = R.take a := by rw [List.take_append_of_le_length (by simp; omega), List.take_of_length_le (by simp; omega)]
  have h2 : (R.take a ++ [x] ++ (R.take a ++ J).drop (a + 1)).take (a + 1) = R.take a ++ [x] := by
    rw [List.take_append_of_le_length (by simp; omega), List.take_of_length_le (by simp; omega)]
  have h3 : (R.take a ++ [x] ++ (R.take a ++ J).drop (a + 1)).drop (a + 1 + Z.length) = [] := List.drop_of_length_le (by simp; omega)
  rw [h1, h2, h3]; simp
theorem ins_in {α : Type} (R Z : List α) (x : α) {i a b c d m : Nat} (hi : i + 1 ≤ R.length) (ha : a = i + 1) (hc : c = i) (hd : d = i + 1) (hm : m = i + 1 + Z.length) :
    ((R.take a ++ Z ++ R.drop b).take c ++ [x] ++ (R.take a ++ Z ++ R.drop b).drop d).take m = R.take i ++ ([x] ++ Z) := by
  subst ha; subst hc; subst hd; subst hm
  have h1 : (R.take (c + 1) ++ Z ++ R.drop b).take c = R.take c := by
    rw [List.append_assoc, List.take_append_of_le_length (by simp; omega), List.take_take, Nat.min_eq_left (by omega)]
  have h2 : (R.take (c + 1) ++ Z ++ R.drop b).drop (c + 1) = Z ++ R.drop b := by
    rw [List.append_assoc, List.drop_append_of_le_length (by simp; omega), List.drop_of_length_le (by simp; omega), List.nil_append]
  rw [h1, h2, ← List.append_assoc, List.take_append_of_le_length (by simp; omega), List.take_of_length_le (by simp; omega), List.append_assoc]
theorem a_insertAt (l : List Ent) (g : Ent) (i : Nat) (hi : i < l.length) (hl : l.length ≤ 1000000) :
    ACall C1.P 82 [.os 0 0 l.length, .v (.int .i64 (i : Int)), .sl false [g.row]] [.own false 4 (l.map Ent.row)] (.os 1 0 (l.length + 1)) [.dead, .own false 4 ((l.take i ++ ([g] ++ l.drop i)).map Ent.row)] := by
  refine acall_intro (C := C1) Tryd.func82 rfl _ Tryd.ntmps82 (Nat.le_of_ble_eq_true rfl) _ Tryd.results82 1 rfl rfl ?_
  refine awp_cap 0 4 (l.map Ent.row) rfl fun cap hcap => ?_
  rw [List.length_map] at hcap
  have hRt : (l.map Ent.row ++ junks 4 (cap - (l.map Ent.row).length)).take l.length = l.map Ent.row := by
    rw [List.take_append_of_le_length (by simp), List.take_of_length_le (by simp)]
  have hRl : l.length ≤ (l.map Ent.row ++ junks 4 (cap - (l.map Ent.row).length)).length := by simp
  generalize l.map Ent.row ++ junks 4 (cap - (l.map Ent.row).length) = R at hRt hRl ⊢
  have hcut : (R.drop i).take (l.length - i) = (l.drop i).map Ent.row := by rw [← List.drop_take, hRt, List.map_drop]
  have hti : R.take i = (l.take i).map Ent.row := by rw [List.map_take, ← hRt, List.take_take, Nat.min_eq_left (by omega)]
  have hck : ∀ row, row ∈ (l.drop i).map Ent.row → row.length = 4 := fun row hr => by obtain ⟨x, _, rfl⟩ := List.mem_map.1 hr; rfl
  have hcl : ∀ row, row ∈ (l.drop i).map Ent.row → row.all cellLike = true := fun row hr => by obtain ⟨x, _, rfl⟩ := List.mem_map.1 hr; rfl
  repeat' (first | refine walk ?_ | (first | (refine o_slo ?_) | (apply opsx_val; apply ex_cap_os; (case hx => rfl); (case hn => rfl); (case hT => rfl); (case he => rfl); (case hN => exact nle rfl)) | (apply opsx_new; apply ex_append_make; (case hx => rfl); (case hT => rfl); (case he => rfl); (case hE => rfl); (case hn => rfl); (case hl => (first | omega | (simp; done) | (simp only [List.length_cons, List.length_nil, List.length_map]; omega) | (simp; omega))); (case hy => exact congrArg (fun z => AV.v (Value.int IntKind.i64 z)) (show ((l.length + 1 : Nat) : Int) - (i : Int) = ((l.length + 1 - i : Nat) : Int) from by omega)); (case hxT => rfl); (case hxk => rfl); (case hz => rfl); (case hs0 => exact Nat.ne_of_beq_eq_false rfl); (case hg => omega); (case hsz => (first | omega | (simp; done) | (simp only [List.length_cons, List.length_nil, List.length_map]; omega) | (simp; omega))); (case hlen => (first | omega | (simp; done) | (simp only [List.length_cons, List.length_nil, List.length_map]; omega) | (simp; omega))); (case hN => exact nle rfl)) | (apply opsx_val; apply ex_overlaps; exact Tryd.func90; (case hname => rfl); (case hb => rfl); (case hnx => rfl); (case hex => rfl); (case hT => rfl); (case he => rfl); (case hE => rfl); (case hx => rfl); (case hy => rfl); (case hm => rfl); (case hk => exact Nat.ne_of_beq_eq_false rfl); (case hrw => intro row hrow; rw [List.mem_singleton.1 hrow]; exact Nat.succ_ne_zero _); (case hN => exact nle rfl)) | (apply opsx_upd; apply ex_copy_os; (case hx => rfl); (case hT => rfl); (case he => rfl); (case hE => rfl); (case hn => rfl); (case hsrc => exact srcC_of (srcA_sl rfl rfl)); (case hmin => exact Nat.min_eq_left (by (first | omega | (simp; done) | (simp only [List.length_cons, List.length_nil, List.length_map]; omega) | (simp; omega)))); (case hfit => (first | omega | (simp; done) | (simp only [List.length_cons, List.length_nil, List.length_map]; omega) | (simp; omega))); (case hN => exact nle rfl)) | (apply opsx_upd; apply ex_copy_os; (case hx => rfl); (case hT => rfl); (case he => rfl); (case hE => rfl); (case hn => rfl); (case hsrc => exact srcC_cut (cnt := l.length - i) rfl (List.mem_singleton.2 rfl) rfl (by omega) (by omega) (by first | exact hcut | simpa using hcut) hck hcl); (case hmin => (first | exact (Nat.min_eq_left (by (first | omega | (simp; done) | (simp only [List.length_cons, List.length_nil, List.length_map]; omega) | (simp; omega)))).trans (by (first | omega | (simp; done) | (simp only [List.length_cons, List.length_nil, List.length_map]; omega) | (simp; omega))) | exact (Nat.min_eq_right (by (first | omega | (simp; done) | (simp only [List.length_cons, List.length_nil, List.length_map]; omega) | (simp; omega)))).trans (by (first | omega | (simp; done) | (simp only [List.length_cons, List.length_nil, List.length_map]; omega) | (simp; omega))))); (case hfit => (first | omega | (simp; done) | (simp only [List.length_cons, List.length_nil, List.length_map]; omega) | (simp; omega))); (case hN => exact nle rfl))) | ((first | (apply ops_split_t; rfl; rfl; exact nle rfl) | (apply ops_split_f; rfl; rfl; exact nle rfl) | (apply awp_cond; rfl)); all_goals (intro hc; have hp := hc; first | (simp at hp; done) | ((try simp at hp); first | (exfalso; omega) | skip))) | (apply awp_cond_any; rfl))
  all_goals try (exfalso; omega)
  · have hrow := ins_new R (junks 4 (l.length + 1 - i)) ((l.drop i).map Ent.row) g.row (i := i) (a := 0 + i) (b := 0 + i + 1) (c := 0 + (i + 1)) (d := 0 + (i + 1) + ((l.drop i).map Ent.row).length) (by omega) (by simp; omega) (by omega) (by omega) (by omega) (by omega)
    (apply fin_ownr (rs := [.tmp 6]) [(1, 1)] 2; (case hr => (repeat (first | exact resok_nil | (apply resok_tmp; rfl) | (apply resok_cell; rfl; rfl; rfl; rfl; rfl)))); (case hL => rfl); (case hh => (apply hsok_dead 0; exact maps_low rfl; (repeat (first | exact hsok_nil | refine q_id ?_ | refine q_idx ?_ ?_))); all_goals (refine hrow.trans ?_; rw [hti]; simp)); (case hi => first | exact (rfl : _ = ([] : List (Nat × Nat))) | exact (rfl : _ = [((0 : Nat), (0 : Nat))]) | exact (rfl : _ = [((0 : Nat), (0 : Nat)), (1, 1)])); (case hz => first | rfl | (simp [pack, AV.ren, AV.ren.renL, lookN, getT, enumT]; done) | (simp [pack, AV.ren, AV.ren.renL, lookN, getT, enumT, *]; done) | (simp [pack, AV.ren, AV.ren.renL, lookN, getT, enumT]; omega)))
  · have hrow := ins_in R ((l.drop i).map Ent.row) g.row (i := i) (a := 0 + 0 + (i + 1)) (b := 0 + 0 + (i + 1) + ((l.drop i).map Ent.row).length) (c := 0 + 0 + i) (d := 0 + 0 + i + 1) (m := l.length + 1) (by omega) (by omega) (by omega) (by omega) (by simp; omega)
    have hrow := hrow.trans (show _ = (l.take i ++ ([g] ++ l.drop i)).map Ent.row from by rw [hti]; simp)
    apply fin_move (C := C1) 6 0 (l.length + 1)
    case hi => rfl
    case hn => rfl
    case hr => exact hrow
    case hnn => exact Nat.ne_of_beq_eq_false rfl
    case hnx => exact Nat.le_of_ble_eq_true rfl
    (apply fin_ownr (rs := [.tmp 6]) [(1, 1)] 2; (case hr => (repeat (first | exact resok_nil | (apply resok_tmp; rfl) | (apply resok_cell; rfl; rfl; rfl; rfl; rfl)))); (case hL => rfl); (case hh => (apply hsok_dead 0; exact maps_low rfl; (repeat (first | exact hsok_nil | refine q_id ?_ | refine q_idx ?_ ?_))); all_goals trace_state); (case hi => first | exact (rfl : _ = ([] : List (Nat × Nat))) | exact (rfl : _ = [((0 : Nat), (0 : Nat))]) | exact (rfl : _ = [((0 : Nat), (0 : Nat)), (1, 1)])); (case hz => first | rfl | (simp [pack, AV.ren, AV.ren.renL, lookN, getT, enumT]; done) | (simp [pack, AV.ren, AV.ren.renL, lookN, getT, enumT, *]; done) | (simp [pack, AV.ren, AV.ren.renL, lookN, getT, enumT]; omega)))
/-- An entry in the place of what is there. -/
def putT (t : List Ent) (x : Ent) : List Ent := if hitE t x.path = true then t.take (posE t x.path) ++ ([x] ++ t.drop (posE t x.path + 1)) else t.take (posE t x.path) ++ ([x] ++ t.drop (posE t x.path))
theorem a_put (t : List Ent) (x : Ent) (hl : t.length ≤ 1000000) (hs : rising entLt t = true) :
    ACall C1.P 72 [.os 0 0 t.length, .agg x.row] [.own false 4 (t.map Ent.row)] (.os 1 0 (putT t x).length) [.dead, .own false 4 ((putT t x).map Ent.row)] := by
  have hat := a_at t x.path (by omega) hs
  cases hh : hitE t x.path with
  | true =>
    obtain ⟨hp0, -, -, -⟩ := hitE_at hs hh
    have hL : putT t x = t.take (posE t x.path) ++ ([x] ++ t.drop (posE t x.path + 1)) := by simp [putT, hh]
    rw [hh] at hat
    generalize putT t x = L at hL ⊢
    generalize posE t x.path = p at hL hp0 hat
    have hlen : L.length = t.length := by rw [hL]; simp; omega
    have hrow := getRow (f := Ent.row) hp0
    refine acall_intro (C := C1) Tryd.func72 rfl _ Tryd.ntmps72 (Nat.le_of_ble_eq_true rfl) _ Tryd.results72 1 rfl rfl ?_
    repeat' (first | refine walk ?_ | (first | (apply opsx_val; apply ex_call ([0]); exact isFn_of Tryd.func53 rfl rfl; apply hat; (case hz => (repeat' (first | exact rzl_nil | apply rzl_cons | exact rz_pure rfl | exact rz_ex | (apply rz_os_pure; (case hn => rfl); (case hl => first | with_reducible rfl | (simp; done) | (simp [*]; done) | omega); (case hp => (first | assumption | exact pures_all rfl | exact pures_map fun _ => rfl))) | apply rz_agg | apply rz_clo))); (case hfl => rfl); (case hN => exact nle rfl)) | (refine o_ixo ?_)) | ((first | (apply ops_split_t; rfl; rfl; exact nle rfl) | (apply ops_split_f; rfl; rfl; exact nle rfl) | (apply awp_cond; rfl)); all_goals (intro hc; have hp := hc; first | (simp at hp; done) | ((try simp at hp); first | (exfalso; omega) | skip))) | (apply awp_cond_any; rfl))
    all_goals try (exfalso; omega)
    apply fin_move (C := C1) 4 0 t.length
    case hi => rfl
    case hn => rfl
    case hr => (show ((t.map Ent.row).set p x.row).take t.length = L.map Ent.row; rw [← List.map_set, hL, List.set_eq_take_append_cons_drop, if_pos hp0, List.take_of_length_le (by simp; omega)]; rfl)
    case hnn => exact Nat.ne_of_beq_eq_false rfl
    case hnx => exact Nat.le_of_ble_eq_true rfl
    (apply fin_ownr (rs := [.tmp 4]) [(2, 1)] 2; (case hr => (repeat (first | exact resok_nil | (apply resok_tmp; rfl) | (apply resok_cell; rfl; rfl; rfl; rfl; rfl)))); (case hL => rfl); (case hh => (apply hsok_dead 0; exact maps_low rfl; (repeat (first | exact hsok_nil | refine q_id ?_ | refine q_idx ?_ ?_))); all_goals trace_state); (case hi => first | exact (rfl : _ = ([] : List (Nat × Nat))) | exact (rfl : _ = [((0 : Nat), (0 : Nat))]) | exact (rfl : _ = [((0 : Nat), (0 : Nat)), (1, 1)])); (case hz => first | rfl | (simp [pack, AV.ren, AV.ren.renL, lookN, getT, enumT]; done) | (simp [pack, AV.ren, AV.ren.renL, lookN, getT, enumT, *]; done) | (simp [pack, AV.ren, AV.ren.renL, lookN, getT, enumT]; omega)))
  | false =>
    have hL : putT t x = t.take (posE t x.path) ++ ([x] ++ t.drop (posE t x.path)) := by simp [putT, hh]
    have hple := posE_le t x.path
    rw [hh] at hat
    generalize putT t x = L at hL ⊢
    generalize posE t x.path = p at hL hple hat
    have hlen : L.length = t.length + 1 := by rw [hL]; simp; omega
    by_cases hp0 : p = t.length
    · have hin := a_insertEnd t x hl
      have hL2 : L = t ++ [x] := by rw [hL, hp0]; simp
      rw [hp0] at hat
      refine acall_intro (C := C1) Tryd.func72 rfl _ Tryd.ntmps72 (Nat.le_of_ble_eq_true rfl) _ Tryd.results72 1 rfl rfl ?_
      repeat' (first | refine walk ?_ | (first | (apply opsx_val; apply ex_call ([0]); exact isFn_of Tryd.func53 rfl rfl; apply hat; (case hz => (repeat' (first | exact rzl_nil | apply rzl_cons | exact rz_pure rfl | exact rz_ex | (apply rz_os_pure; (case hn => rfl); (case hl => first | with_reducible rfl | (simp; done) | (simp [*]; done) | omega); (case hp => (first | assumption | exact pures_all rfl | exact pures_map fun _ => rfl))) | apply rz_agg | apply rz_clo))); (case hfl => rfl); (case hN => exact nle rfl)) | (refine o_ixo ?_) | (refine o_fzl ?_) | (apply to_call Tryd.func82 rfl rfl; intro hIsFn; refine o_callg ([0]) 0 hIsFn (hin ..) ?_)) | ((first | (apply ops_split_t; rfl; rfl; exact nle rfl) | (apply ops_split_f; rfl; rfl; exact nle rfl) | (apply awp_cond; rfl)); all_goals (intro hc; have hp := hc; first | (simp at hp; done) | ((try simp at hp); first | (exfalso; omega) | skip))) | (apply awp_cond_any; rfl))
      all_goals try (exfalso; omega)
      (apply fin_ownr (rs := [.tmp 4]) [(2, 1)] 2; (case hr => (repeat (first | exact resok_nil | (apply resok_tmp; rfl) | (apply resok_cell; rfl; rfl; rfl; rfl; rfl)))); (case hL => rfl); (case hh => (apply hsok_dead 0; exact maps_low rfl; (repeat (first | exact hsok_nil | refine q_id ?_ | refine q_idx ?_ ?_))); all_goals (rw [hL2])); (case hi => first | exact (rfl : _ = ([] : List (Nat × Nat))) | exact (rfl : _ = [((0 : Nat), (0 : Nat))]) | exact (rfl : _ = [((0 : Nat), (0 : Nat)), (1, 1)])); (case hz => first | rfl | (simp [pack, AV.ren, AV.ren.renL, lookN, getT, enumT]; done) | (simp [pack, AV.ren, AV.ren.renL, lookN, getT, enumT, *]; done) | (simp [pack, AV.ren, AV.ren.renL, lookN, getT, enumT]; omega)))
    · have hin := a_insertAt t x p (by omega) hl
      refine acall_intro (C := C1) Tryd.func72 rfl _ Tryd.ntmps72 (Nat.le_of_ble_eq_true rfl) _ Tryd.results72 1 rfl rfl ?_
      repeat' (first | refine walk ?_ | (first | (apply opsx_val; apply ex_call ([0]); exact isFn_of Tryd.func53 rfl rfl; apply hat; (case hz => (repeat' (first | exact rzl_nil | apply rzl_cons | exact rz_pure rfl | exact rz_ex | (apply rz_os_pure; (case hn => rfl); (case hl => first | with_reducible rfl | (simp; done) | (simp [*]; done) | omega); (case hp => (first | assumption | exact pures_all rfl | exact pures_map fun _ => rfl))) | apply rz_agg | apply rz_clo))); (case hfl => rfl); (case hN => exact nle rfl)) | (refine o_ixo ?_) | (refine o_fzl ?_) | (apply to_call Tryd.func82 rfl rfl; intro hIsFn; refine o_callg ([0]) 0 hIsFn (hin ..) ?_)) | ((first | (apply ops_split_t; rfl; rfl; exact nle rfl) | (apply ops_split_f; rfl; rfl; exact nle rfl) | (apply awp_cond; rfl)); all_goals (intro hc; have hp := hc; first | (simp at hp; done) | ((try simp at hp); first | (exfalso; omega) | skip))) | (apply awp_cond_any; rfl))
      all_goals try (exfalso; omega)
      (apply fin_ownr (rs := [.tmp 4]) [(2, 1)] 2; (case hr => (repeat (first | exact resok_nil | (apply resok_tmp; rfl) | (apply resok_cell; rfl; rfl; rfl; rfl; rfl)))); (case hL => rfl); (case hh => (apply hsok_dead 0; exact maps_low rfl; (repeat (first | exact hsok_nil | refine q_id ?_ | refine q_idx ?_ ?_))); all_goals (rw [hL])); (case hi => first | exact (rfl : _ = ([] : List (Nat × Nat))) | exact (rfl : _ = [((0 : Nat), (0 : Nat))]) | exact (rfl : _ = [((0 : Nat), (0 : Nat)), (1, 1)])); (case hz => first | rfl | (simp [pack, AV.ren, AV.ren.renL, lookN, getT, enumT]; done) | (simp [pack, AV.ren, AV.ren.renL, lookN, getT, enumT, *]; done) | (simp [pack, AV.ren, AV.ren.renL, lookN, getT, enumT]; omega)))
end Go.Proofs.YtpeenheeakhlgaaDoor
