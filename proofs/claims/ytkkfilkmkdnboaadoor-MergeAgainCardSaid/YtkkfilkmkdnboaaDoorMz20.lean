import Derived.Test.YtkkfilkmkdnboaaDoorMz16
import Derived.Test.YtkkfilkmkdnboaaDoorMz19
/- Trees in the abstract layer, 1: versions, entries, the place of a path, the parent. -/
set_option linter.unusedSimpArgs false
set_option linter.unnecessarySimpa false
set_option maxHeartbeats 1000000
namespace Go.Proofs.YtkkfilkmkdnboaaDoor
open Go.Ab Go.RowKit
set_option maxRecDepth 10000
attribute [local irreducible] Awp Ops OpsX Wanted Red ExOk Go.Ab.Fin ACall Rz RzL RzRows Enters ResOk RenV RenVL ArgV ArgVL

theorem a_isNaN (s : Str) : AFn C.P 111 [.v (str s)] (.v (.bool false)) := by
  refine acall_intro Tryd.func111 rfl _ Tryd.ntmps111 (Nat.le_of_ble_eq_true rfl) _ Tryd.results111 0 rfl rfl ?_
  repeat' (first | refine walk ?_ | fail | ((first | (apply awp_cond; rfl)); all_goals (intro hc; have hp := hc; first | (simp at hp; done) | ((try simp at hp); first | (exfalso; omega) | skip))) | (apply awp_cond_any; rfl))
  all_goals (apply fin_bool; rfl; simp)
theorem a_compare (a b : Str) : AFn C.P 87 [.v (str a), .v (str b)] (.v (.int .i64 (strCmp a b))) := by
  refine acall_intro Tryd.func87 rfl _ Tryd.ntmps87 (Nat.le_of_ble_eq_true rfl) _ Tryd.results87 0 rfl rfl ?_
  repeat' (first | refine walk ?_ | (first | (apply to_call Tryd.func111 rfl rfl; intro hIsFn; refine o_callf hIsFn (a_isNaN ..) ?_; skip)) | ((first | (apply awp_cond; rfl)); all_goals (intro hc; have hp := hc; first | (simp at hp; done) | ((try simp at hp); first | (exfalso; omega) | skip))) | (apply awp_cond_any; rfl))
  all_goals (apply fin_int; rfl; simp_all [strCmp])
theorem a_isVerT (n : Int) : AFn C.P 78 [.v (.int .i64 n)] (.v (.bool (isVer n))) := by
  refine acall_intro Tryd.func78 rfl _ Tryd.ntmps78 (Nat.le_of_ble_eq_true rfl) _ Tryd.results78 0 rfl rfl ?_
  repeat' (first | refine walk ?_ | fail | ((first | (apply ops_split_t; rfl; rfl; exact nle rfl) | (apply ops_split_f; rfl; rfl; exact nle rfl) | (apply awp_cond; rfl)); all_goals (intro hc; have hp := hc; first | (simp at hp; done) | ((try simp at hp); first | (exfalso; omega) | skip))) | (apply awp_cond_any; rfl))
  all_goals (apply fin_bool; rfl; simp_all [isVer]; try (intro _; omega))
theorem a_isVerR (n : Int) : AFn C.P 56 [.v (.int .i64 n)] (.v (.bool (isVer n))) := by
  refine acall_intro Tryd.func56 rfl _ Tryd.ntmps56 (Nat.le_of_ble_eq_true rfl) _ Tryd.results56 0 rfl rfl ?_
  repeat' (first | refine walk ?_ | fail | ((first | (apply ops_split_t; rfl; rfl; exact nle rfl) | (apply ops_split_f; rfl; rfl; exact nle rfl) | (apply awp_cond; rfl)); all_goals (intro hc; have hp := hc; first | (simp at hp; done) | ((try simp at hp); first | (exfalso; omega) | skip))) | (apply awp_cond_any; rfl))
  all_goals (apply fin_bool; rfl; simp_all [isVer]; try (intro _; omega))
theorem a_checkEntry (e : Ent) (he : e.small) : AFn C.P 106 [.agg e.row] (.v (.int .i64 (entErr e))) := by
  have h1 := he.1
  have h2 := he.2
  have hp := a_pcheck e.path (by omega)
  have hv := a_isVerT e.ver
  have hE : entErr e = if pathErr e.path = 0 then (if e.fold = true ∧ ¬ e.text = [] then 1 else if 300 < e.text.length then 2 else if isVer e.ver = true then 0 else 3) else pathErr e.path := rfl
  generalize entErr e = E at *
  generalize isVer e.ver = V at *
  generalize pathErr e.path = F at *
  refine acall_intro Tryd.func106 rfl _ Tryd.ntmps106 (Nat.le_of_ble_eq_true rfl) _ Tryd.results106 0 rfl rfl ?_
  repeat' (first | refine walk ?_ | (first | (apply to_call Tryd.func59 rfl rfl; intro hIsFn; refine o_callf hIsFn (hp ..) ?_; skip) | (apply to_call Tryd.func78 rfl rfl; intro hIsFn; refine o_callf hIsFn (hv ..) ?_; skip)) | ((first | (apply ops_split_t; rfl; rfl; exact nle rfl) | (apply ops_split_f; rfl; rfl; exact nle rfl) | (apply awp_cond; rfl)); all_goals (intro hc; have hp := hc; first | (simp at hp; done) | ((try simp at hp); first | (exfalso; omega) | skip))) | (apply awp_cond_any; rfl))
  all_goals try (exfalso; omega)
  all_goals (apply fin_int; rfl; rw [hE]; simp_all; try omega)
theorem a_atC (e : Ent) (p : Str) : AFn C.P 86 [.agg e.row, .v (str p)] (.v (.int .i64 (strCmp e.path p))) := by
  refine acall_intro Tryd.func86 rfl _ Tryd.ntmps86 (Nat.le_of_ble_eq_true rfl) _ Tryd.results86 0 rfl rfl ?_
  repeat' (first | refine walk ?_ | (first | (apply to_call Tryd.func87 rfl rfl; intro hIsFn; refine o_callf hIsFn (a_compare ..) ?_; skip)) | ((first | (apply awp_cond; rfl)); all_goals (intro hc; have hp := hc; first | (simp at hp; done) | ((try simp at hp); first | (exfalso; omega) | skip))) | (apply awp_cond_any; rfl))
  all_goals (apply fin_int; rfl; rfl)
theorem a_searchE (l : List Ent) (p : Str) (hl : l.length ≤ 140737488355328) (hs : rising entLt l = true) :
    AFn C.P 85 [entAV l, .v (str p), .clo (.func 86) [] []] (.tup [.v (.int .i64 (posE l p)), .v (.bool (hitE l p))]) := by
  refine acall_intro Tryd.func85 rfl _ Tryd.ntmps85 (Nat.le_of_ble_eq_true rfl) _ Tryd.results85 0 rfl rfl ?_
  repeat' (first | refine walk ?_ | fail | ((first | (apply ops_split_t; rfl; rfl; exact nle rfl) | (apply ops_split_f; rfl; rfl; exact nle rfl) | (apply awp_cond; rfl)); all_goals (intro hc; have hp := hc; first | (simp at hp; done) | ((try simp at hp); first | (exfalso; omega) | skip))) | (apply awp_cond_any; rfl))
  (refine Awp.red (red_pure (ts := [(0, entAV l), (1, .v (str p)), (2, .clo (.func 86) [] []), (8, .v (.int .i64 l.length)), (9, .v (.int .i64 ((0 : Nat) : Int))), (10, .v (.int .i64 l.length))]) ?_) ?_; ((repeat (first | exact tsok_nil | refine p_pure ?_ | refine p_eq ?_ ?_))))
  all_goals try (rw [List.length_map]; done)
  refine awp_loop (fun n σ => ∃ lo hi : Nat, lo ≤ hi ∧ hi ≤ l.length ∧ n = hi - lo ∧ (∀ (k : Nat) (h : k < l.length), k < lo → Op.bytesLess l[k].path p = true) ∧ (∀ (k : Nat) (h : k < l.length), hi ≤ k → Op.bytesLess l[k].path p = false) ∧ σ = ⟨[(0, entAV l), (1, .v (str p)), (2, .clo (.func 86) [] []), (8, .v (.int .i64 l.length)), (9, .v (.int .i64 ((lo : Nat) : Int))), (10, .v (.int .i64 ((hi : Nat) : Int)))], [], C.nh⟩) l.length ⟨0, l.length, by omega, Nat.le_refl _, rfl, fun _ _ h => absurd h (by omega), fun _ _ h => absurd h (by omega), rfl⟩ ?_
  rintro n σ ⟨lo, hi, hle, hhi, rfl, h1, h2, rfl⟩
  by_cases hlt : lo < hi
  · obtain ⟨m, hm⟩ : ∃ m : Nat, m = (lo + hi) / 2 := ⟨_, rfl⟩
    have hmi : ((lo : Int) + (hi : Int)) / 2 = (m : Int) := by omega
    have hml : m < l.length := by omega
    have hr := getRow (f := Ent.row) hml
    have hr2 : (l.map Ent.row)[(((lo : Int) + (hi : Int)) / 2).toNat]? = some l[m].row := by rw [hmi]; exact hr
    repeat' (first | refine walk ?_ | (first | (apply opsx_val; first | (apply ex_conv_u; rfl; rfl; rfl; rfl; rfl; omega; omega; exact nle rfl) | (apply ex_conv_i; rfl; rfl; rfl; rfl; rfl; omega; omega; exact nle rfl)) | (apply opsx_val; apply ex_half; (case hx => rfl); (case hy => rfl); (case hk => decide); (case hN => exact nle rfl)) | (refine o_callv Tryd.func86 (a_atC ..) ?_)) | ((first | (apply ops_split_t; rfl; rfl; exact nle rfl) | (apply ops_split_f; rfl; rfl; exact nle rfl) | (apply awp_cond; rfl)); all_goals (intro hc; have hp := hc; first | (simp at hp; done) | ((try simp at hp); first | (exfalso; omega) | skip))) | (apply awp_cond_any; rfl))
    all_goals try (exfalso; omega)
    · have hmg : Op.bytesLess l[m].path p = true := (strCmp_neg _ _).1 hp
      refine ⟨hi - (m + 1), _, by omega, red_pure (ts := [(0, entAV l), (1, .v (str p)), (2, .clo (.func 86) [] []), (8, .v (.int .i64 l.length)), (9, .v (.int .i64 ((m + 1 : Nat) : Int))), (10, .v (.int .i64 ((hi : Nat) : Int)))]) ?_, m + 1, hi, by omega, hhi, rfl, fun k h hk => ?_, h2, rfl⟩
      · (repeat (first | exact tsok_nil | refine p_pure ?_ | refine p_eq ?_ ?_))
        all_goals (rw [hmi]; rfl)
      · by_cases e : k = m
        · subst e; exact hmg
        · exact bl_trans (rising_ltE hs k m h hml (by omega)) hmg
    · have hmg : Op.bytesLess l[m].path p = false := (by
        cases h : Op.bytesLess l[m].path p
        · rfl
        · have := (strCmp_neg _ _).2 h; omega)
      refine ⟨m - lo, _, by omega, red_pure (ts := [(0, entAV l), (1, .v (str p)), (2, .clo (.func 86) [] []), (8, .v (.int .i64 l.length)), (9, .v (.int .i64 ((lo : Nat) : Int))), (10, .v (.int .i64 ((m : Nat) : Int)))]) ?_, lo, m, by omega, by omega, rfl, h1, fun k h hk => ?_, rfl⟩
      · (repeat (first | exact tsok_nil | refine p_pure ?_ | refine p_eq ?_ ?_))
        all_goals (rw [hmi])
      · by_cases e : k = m
        · subst e; exact hmg
        · cases hkg : Op.bytesLess l[k].path p
          · rfl
          · rw [bl_trans (rising_ltE hs m k hml h (by omega)) hkg] at hmg; cases hmg
  obtain rfl : lo = hi := by omega
  have hpos : posE l p = lo := posE_is hhi h1 (fun h => h2 lo h (by omega))
  by_cases hin : lo < l.length
  · have hr := getRow (f := Ent.row) hin
    have hhit : hitE l p = decide (strCmp l[lo].path p = 0) := by
      rw [hitE_pos hs, hpos, List.getElem?_eq_getElem hin]
    repeat' (first | refine walk ?_ | (first | (refine o_callv Tryd.func86 (a_atC ..) ?_)) | ((first | (apply ops_split_t; rfl; rfl; exact nle rfl) | (apply ops_split_f; rfl; rfl; exact nle rfl) | (apply awp_cond; rfl)); all_goals (intro hc; have hp := hc; first | (simp at hp; done) | ((try simp at hp); first | (exfalso; omega) | skip))) | (apply awp_cond_any; rfl))
    all_goals try (exfalso; omega)
    rw [hpos, hhit]
    (refine f_pure (rs := [.tmp 6, .tmp 7]) ?_; (repeat' (first | exact rzl_nil | apply rzl_cons | exact rz_pure rfl | exact rz_ex | exact z_os | apply rz_agg | apply rz_tup | apply rz_clo | apply rz_int | apply rz_bool | apply rz_str | refine z_eq ?_ | apply rz_sl)); all_goals trace_state)
  · have hhit : hitE l p = false := by
      rw [hitE_pos hs, hpos, List.getElem?_eq_none (by omega)]
    repeat' (first | refine walk ?_ | (first | (refine o_callv Tryd.func86 (a_atC ..) ?_)) | ((first | (apply ops_split_t; rfl; rfl; exact nle rfl) | (apply ops_split_f; rfl; rfl; exact nle rfl) | (apply awp_cond; rfl)); all_goals (intro hc; have hp := hc; first | (simp at hp; done) | ((try simp at hp); first | (exfalso; omega) | skip))) | (apply awp_cond_any; rfl))
    all_goals try (exfalso; omega)
    rw [hpos, hhit]
    (refine f_pure (rs := [.tmp 6, .tmp 7]) ?_; (repeat' (first | exact rzl_nil | apply rzl_cons | exact rz_pure rfl | exact rz_ex | exact z_os | apply rz_agg | apply rz_tup | apply rz_clo | apply rz_int | apply rz_bool | apply rz_str | refine z_eq ?_ | apply rz_sl)); all_goals trace_state)
theorem a_at (l : List Ent) (p : Str) (hl : l.length ≤ 140737488355328) (hs : rising entLt l = true) :
    AFn C.P 60 [entAV l, .v (str p)] (.tup [.v (.int .i64 (posE l p)), .v (.bool (hitE l p))]) := by
  have hse := a_searchE l p hl hs
  refine acall_intro Tryd.func60 rfl _ Tryd.ntmps60 (Nat.le_of_ble_eq_true rfl) _ Tryd.results60 0 rfl rfl ?_
  repeat' (first | refine walk ?_ | (first | (apply to_call Tryd.func85 rfl rfl; intro hIsFn; refine o_callp hIsFn (hse ..) ?_)) | ((first | (apply awp_cond; rfl)); all_goals (intro hc; have hp := hc; first | (simp at hp; done) | ((try simp at hp); first | (exfalso; omega) | skip))) | (apply awp_cond_any; rfl))
  (refine f_pure (rs := [.tmp 4, .tmp 5]) ?_; (repeat' (first | exact rzl_nil | apply rzl_cons | exact rz_pure rfl | exact rz_ex | exact z_os | apply rz_agg | apply rz_tup | apply rz_clo | apply rz_int | apply rz_bool | apply rz_str | refine z_eq ?_ | apply rz_sl)); all_goals trace_state)
end Go.Proofs.YtkkfilkmkdnboaaDoor

/- Trees in the abstract layer, 2: the parent; checkTree, check, Check. -/
set_option linter.unusedSimpArgs false
set_option linter.unnecessarySimpa false
set_option maxHeartbeats 1000000
namespace Go.Proofs.YtkkfilkmkdnboaaDoor
open Go.Ab Go.RowKit
set_option maxRecDepth 10000
attribute [local irreducible] Awp Ops OpsX Wanted Red ExOk Go.Ab.Fin ACall Rz RzL RzRows Enters ResOk RenV RenVL ArgV ArgVL

def parEnt (l : List Ent) (p : Str) : Ent := if parentOf p = [] then ⟨[], true, [], 0⟩ else match l.find? (atP (parentOf p)) with | some x => x | none => ⟨[], false, [], 0⟩
def parOk (l : List Ent) (p : Str) : Bool := decide (parentOf p = []) || hitE l (parentOf p)
theorem parEnt_err (l : List Ent) (p : Str) : folderErr l (parentOf p) = if parOk l p = true then (if (parEnt l p).fold = true then 0 else 4) else 5 := by
  unfold folderErr parOk parEnt
  by_cases h : parentOf p = []
  · simp [h]
  · cases hh : hitE l (parentOf p) with
    | true =>
      obtain ⟨x, hx, hk⟩ := List.any_eq_true.1 hh
      cases hf : l.find? (atP (parentOf p)) with
      | none => rw [List.find?_eq_none] at hf; exact absurd hk (hf x hx)
      | some y => simp [h]
    | false => simp [h, (hitE_none hh).1]
theorem a_parentT (l : List Ent) (p : Str) (hl : l.length ≤ 140737488355328) (hs : rising entLt l = true) (hp : p.length ≤ 140737488355328) :
    AFn C.P 107 [entAV l, .v (str p)] (.tup [.agg (parEnt l p).row, .v (.bool (parOk l p))]) := by
  have hsp := a_split p (by omega)
  have hat := a_at l (parentOf p) hl hs
  by_cases h : parentOf p = []
  · have e1 : parEnt l p = ⟨[], true, [], 0⟩ := by simp [parEnt, h]
    have e2 : parOk l p = true := by simp [parOk, h]
    rw [h] at hsp hat
    rw [e1, e2]
    refine acall_intro Tryd.func107 rfl _ Tryd.ntmps107 (Nat.le_of_ble_eq_true rfl) _ Tryd.results107 0 rfl rfl ?_
    repeat' (first | refine walk ?_ | (first | (apply to_call Tryd.func61 rfl rfl; intro hIsFn; refine o_callp hIsFn (hsp ..) ?_) | (apply to_call Tryd.func60 rfl rfl; intro hIsFn; refine o_callp hIsFn (hat ..) ?_)) | ((first | (apply awp_cond; rfl)); all_goals (intro hc; have hp := hc; first | (simp at hp; done) | ((try simp at hp); first | (exfalso; omega) | skip))) | (apply awp_cond_any; rfl))
    all_goals try (exfalso; simp_all; done)
    (refine f_pure (rs := [.cell 4 65, .tmp 5]) ?_; (repeat' (first | exact rzl_nil | apply rzl_cons | exact rz_pure rfl | exact rz_ex | exact z_os | apply rz_agg | apply rz_tup | apply rz_clo | apply rz_int | apply rz_bool | apply rz_str | refine z_eq ?_ | apply rz_sl)); all_goals trace_state)
  · cases hh : hitE l (parentOf p) with
    | true =>
      obtain ⟨hk, hpe, hfi, -⟩ := hitE_at hs hh
      have e1 : parEnt l p = l[posE l (parentOf p)] := by simp [parEnt, h, hfi]
      have e2 : parOk l p = true := by simp [parOk, hh]
      rw [hh] at hat
      rw [e1, e2]
      generalize posE l (parentOf p) = k at *
      have hr := getRow (f := Ent.row) hk
      refine acall_intro Tryd.func107 rfl _ Tryd.ntmps107 (Nat.le_of_ble_eq_true rfl) _ Tryd.results107 0 rfl rfl ?_
      repeat' (first | refine walk ?_ | (first | (apply to_call Tryd.func61 rfl rfl; intro hIsFn; refine o_callp hIsFn (hsp ..) ?_) | (apply to_call Tryd.func60 rfl rfl; intro hIsFn; refine o_callp hIsFn (hat ..) ?_)) | ((first | (apply awp_cond; rfl)); all_goals (intro hc; have hp := hc; first | (simp at hp; done) | ((try simp at hp); first | (exfalso; omega) | skip))) | (apply awp_cond_any; rfl))
      all_goals try (exfalso; first | exact h (by assumption) | (simp_all; done))
      (refine f_pure (rs := [.cell 4 65, .tmp 5]) ?_; (repeat' (first | exact rzl_nil | apply rzl_cons | exact rz_pure rfl | exact rz_ex | exact z_os | apply rz_agg | apply rz_tup | apply rz_clo | apply rz_int | apply rz_bool | apply rz_str | refine z_eq ?_ | apply rz_sl)); all_goals trace_state)
    | false =>
      have e1 : parEnt l p = ⟨[], false, [], 0⟩ := by simp [parEnt, h, (hitE_none hh).1]
      have e2 : parOk l p = false := by simp [parOk, hh, h]
      rw [hh] at hat
      rw [e1, e2]
      refine acall_intro Tryd.func107 rfl _ Tryd.ntmps107 (Nat.le_of_ble_eq_true rfl) _ Tryd.results107 0 rfl rfl ?_
      repeat' (first | refine walk ?_ | (first | (apply to_call Tryd.func61 rfl rfl; intro hIsFn; refine o_callp hIsFn (hsp ..) ?_) | (apply to_call Tryd.func60 rfl rfl; intro hIsFn; refine o_callp hIsFn (hat ..) ?_)) | ((first | (apply awp_cond; rfl)); all_goals (intro hc; have hp := hc; first | (simp at hp; done) | ((try simp at hp); first | (exfalso; omega) | skip))) | (apply awp_cond_any; rfl))
      all_goals try (exfalso; first | exact h (by assumption) | (simp_all; done))
      (refine f_pure (rs := [.cell 4 65, .tmp 5]) ?_; (repeat' (first | exact rzl_nil | apply rzl_cons | exact rz_pure rfl | exact rz_ex | exact z_os | apply rz_agg | apply rz_tup | apply rz_clo | apply rz_int | apply rz_bool | apply rz_str | refine z_eq ?_ | apply rz_sl)); all_goals trace_state)
end Go.Proofs.YtkkfilkmkdnboaaDoor

/- Trees in the abstract layer, 3: checkTree, check, Check, Find. -/
set_option linter.unusedSimpArgs false
set_option linter.unnecessarySimpa false
set_option maxHeartbeats 1000000
namespace Go.Proofs.YtkkfilkmkdnboaaDoor
open Go.Ab Go.RowKit
set_option maxRecDepth 10000
attribute [local irreducible] Awp Ops OpsX Wanted Red ExOk Go.Ab.Fin ACall Rz RzL RzRows Enters ResOk RenV RenVL ArgV ArgVL

theorem leq_ent (a b : Ent) : (Op.bytesLess b.path a.path || decide (b.path = a.path)) = !entLt a b := by
  unfold entLt
  rcases bl_tri a.path b.path with ⟨h1, h2, h3⟩ | ⟨h1, h2, h3⟩ | ⟨h1, h2, h3⟩
  · have h4 : ¬ b.path = a.path := fun e => h3 e.symm
    simp [h1, h2, h4]
  · simp [h1, bl_irr]
  · simp [h1, h2]
theorem treeErr_ent {t : List Ent} (h60 : ¬ 60 < t.length) {k : Nat} (hk : k < t.length) (hs : ∀ g, g ∈ t.take k → entErr g = 0) (h0 : entErr t[k] ≠ 0) : entErr t[k] = treeErr t := by
  have h1 := firstErr_at hk hs h0
  have hz : ¬ firstErr entErr t = 0 := by rw [h1]; exact h0
  simp only [treeErr, h60, hz, if_false]
  rw [h1]
theorem a_checkTree (l : List Ent) (hl : EBig l) : AFn C.P 83 [entAV l] (.v (.int .i64 (treeErr l))) := by
  have hll := hl.len
  refine acall_intro Tryd.func83 rfl _ Tryd.ntmps83 (Nat.le_of_ble_eq_true rfl) _ Tryd.results83 0 rfl rfl ?_
  repeat' (first | refine walk ?_ | fail | ((first | (apply awp_cond; rfl)); all_goals (intro hc; have hp := hc; first | (simp at hp; done) | ((try simp at hp); first | (exfalso; omega) | skip))) | (apply awp_cond_any; rfl))
  · apply fin_int
    rfl
    have h60 : 60 < l.length := by omega
    simp [treeErr, h60]
  have h60 : ¬ 60 < l.length := by omega
  (refine Awp.red (red_pure (ts := [(0, entAV l), (15, entAV l), (16, .v (.int .i64 l.length)), (17, .v (.int .i64 ((0 : Nat) : Int)))]) ?_) ?_; ((repeat (first | exact tsok_nil | refine p_pure ?_ | refine p_eq ?_ ?_))))
  all_goals try (rw [List.length_map]; done)
  refine awp_loop (fun n σ => ∃ i : Nat, i ≤ l.length ∧ n = l.length - i ∧ (∀ g, g ∈ l.take i → entErr g = 0) ∧ σ = ⟨[(0, entAV l), (15, entAV l), (16, .v (.int .i64 l.length)), (17, .v (.int .i64 (i : Int)))], [], C.nh⟩) l.length ⟨0, Nat.zero_le _, rfl, (by simp), rfl⟩ ?_
  rintro n σ ⟨i, hi, rfl, hsofar, rfl⟩
  by_cases hlt : i < l.length
  · have hr := getRow (f := Ent.row) hlt
    have hsm := hl.each l[i] (List.getElem_mem _)
    have hce := a_checkEntry l[i] hsm
    repeat' (first | refine walk ?_ | (first | (apply to_call Tryd.func106 rfl rfl; intro hIsFn; refine o_callf hIsFn (hce ..) ?_; skip)) | ((first | (apply awp_cond; rfl)); all_goals (intro hc; have hp := hc; first | (simp at hp; done) | ((try simp at hp); first | (exfalso; omega) | skip))) | (apply awp_cond_any; rfl))
    all_goals try (exfalso; omega)
    · apply fin_int
      rfl
      exact treeErr_ent h60 hlt hsofar (by assumption)
    · refine ⟨l.length - (i + 1), _, by omega, red_pure (ts := [(0, entAV l), (15, entAV l), (16, .v (.int .i64 l.length)), (17, .v (.int .i64 ((i + 1 : Nat) : Int)))]) ?_, i + 1, by omega, rfl, mem_take_succ hlt hsofar (by assumption), rfl⟩; ((repeat (first | exact tsok_nil | refine p_pure ?_ | refine p_eq ?_ ?_)))
  obtain rfl : i = l.length := by omega
  have hz : firstErr entErr l = 0 := firstErr_zero.2 (fun s hs => hsofar s (by rw [List.take_length]; exact hs))
  clear hsofar
  repeat' (first | refine walk ?_ | fail | ((first | (apply awp_cond; rfl)); all_goals (intro hc; have hp := hc; first | (simp at hp; done) | ((try simp at hp); first | (exfalso; omega) | skip))) | (apply awp_cond_any; rfl))
  all_goals try (exfalso; omega)
  (refine Awp.red (red_pure (ts := [(0, entAV l), (6, .v (.int .i64 ((0 + 1 : Nat) : Int)))]) ?_) ?_; ((repeat (first | exact tsok_nil | refine p_pure ?_ | refine p_eq ?_ ?_))))
  refine awp_loop (fun n σ => ∃ i : Nat, i ≤ (l.drop 1).length ∧ n = (l.drop 1).length - i ∧ (∀ (k : Nat) (h : k + 1 < l.length), k < i → entLt (l[k]'(by omega)) l[k + 1] = true) ∧ σ = ⟨[(0, entAV l), (6, .v (.int .i64 ((i + 1 : Nat) : Int)))], [], C.nh⟩) (l.drop 1).length ⟨0, Nat.zero_le _, rfl, (fun k h hk => absurd hk (Nat.not_lt_zero _)), rfl⟩ ?_
  have hdl : (l.drop 1).length = l.length - 1 := by simp
  rintro n σ ⟨i, hi, rfl, hsofar, rfl⟩
  by_cases hlt : i + 1 < l.length
  · have hr := getRow (f := Ent.row) hlt
    have hr' := getRow (f := Ent.row) (l := l) (i := i) (by omega)
    have hle := leq_ent l[i] l[i + 1]
    repeat' (first | refine walk ?_ | fail | ((first | (apply awp_cond; rfl)); all_goals (intro hc; have hp := hc; first | (simp at hp; done) | ((try simp at hp); first | (exfalso; omega) | skip))) | (apply awp_cond_any; rfl))
    all_goals try (exfalso; omega)
    · have hrf : ¬ rising entLt l = true := fun h => by
        have := rising_iff.1 h i hlt
        simp_all
      apply fin_int
      rfl
      simp [treeErr, h60, hz, hrf]
    · have hok : entLt l[i] l[i + 1] = true := (by simp_all)
      refine ⟨(l.drop 1).length - (i + 1), _, by omega, red_pure (ts := [(0, entAV l), (6, .v (.int .i64 ((i + 1 + 1 : Nat) : Int)))]) ?_, i + 1, by omega, rfl, (fun k h hk => by
        by_cases e : k = i
        · subst e; exact hok
        · exact hsofar k h (by omega)), rfl⟩; ((repeat (first | exact tsok_nil | refine p_pure ?_ | refine p_eq ?_ ?_)))
  have hrise : rising entLt l = true := rising_iff.2 fun k h => hsofar k h (by simp at hi; omega)
  clear hsofar
  repeat' (first | refine walk ?_ | fail | ((first | (apply awp_cond; rfl)); all_goals (intro hc; have hp := hc; first | (simp at hp; done) | ((try simp at hp); first | (exfalso; omega) | skip))) | (apply awp_cond_any; rfl))
  all_goals try (exfalso; omega)
  (refine Awp.red (red_pure (ts := [(0, entAV l), (7, .v (.int .i64 (if (l.take 0).any (fun x => decide (¬ parErr l x = 0)) = true then 4 else 0))), (45, entAV l), (46, .v (.int .i64 l.length)), (47, .v (.int .i64 ((0 : Nat) : Int)))]) ?_) ?_; ((repeat (first | exact tsok_nil | refine p_pure ?_ | refine p_eq ?_ ?_))))
  all_goals try (rw [List.length_map]; done)
  refine awp_loop (fun n σ => ∃ i : Nat, i ≤ l.length ∧ n = l.length - i ∧ (∀ g, g ∈ l.take i → ¬ parErr l g = 5) ∧ σ = ⟨[(0, entAV l), (7, .v (.int .i64 (if (l.take i).any (fun x => decide (¬ parErr l x = 0)) = true then 4 else 0))), (45, entAV l), (46, .v (.int .i64 l.length)), (47, .v (.int .i64 (i : Int)))], [], C.nh⟩) l.length ⟨0, Nat.zero_le _, rfl, (by simp), rfl⟩ ?_
  rintro n σ ⟨i, hi, rfl, hsofar, rfl⟩
  by_cases hlt : i < l.length
  · have hr := getRow (f := Ent.row) hlt
    have hsm := hl.each l[i] (List.getElem_mem _)
    have hpa := a_parentT l l[i].path hl.len hrise (by have := hsm.1; omega)
    have hpe : parErr l l[i] = _ := parEnt_err l l[i].path
    have htk := List.take_succ_eq_append_getElem hlt
    generalize parOk l l[i].path = ok at hpa hpe
    generalize parEnt l l[i].path = pe at hpa hpe
    repeat' (first | refine walk ?_ | (first | (apply to_call Tryd.func107 rfl rfl; intro hIsFn; refine o_callp hIsFn (hpa ..) ?_)) | ((first | (apply awp_cond; rfl)); all_goals (intro hc; have hp := hc; first | (simp at hp; done) | ((try simp at hp); first | (exfalso; omega) | skip))) | (apply awp_cond_any; rfl))
    all_goals try (exfalso; omega)
    · have h5 : parErr l l[i] = 5 := (by rw [hpe]; simp_all)
      have hany : l.any (fun x => decide (parErr l x = 5)) = true := List.any_eq_true.2 ⟨l[i], List.getElem_mem _, by simp [h5]⟩
      apply fin_int
      rfl
      simp [treeErr, h60, hz, hrise, hany]
    · have h4 : parErr l l[i] = 4 := (by rw [hpe]; simp_all)
      refine ⟨l.length - (i + 1), _, by omega, red_pure (ts := [(0, entAV l), (7, .v (.int .i64 (if (l.take (i + 1)).any (fun x => decide (¬ parErr l x = 0)) = true then 4 else 0))), (45, entAV l), (46, .v (.int .i64 l.length)), (47, .v (.int .i64 ((i + 1 : Nat) : Int)))]) ?_, i + 1, by omega, rfl, mem_take_succ hlt hsofar (by rw [h4]; decide), rfl⟩; ((repeat (first | exact tsok_nil | refine p_pure ?_ | refine p_eq ?_ ?_)); all_goals (rw [htk, List.any_append]; simp [h4]))
    · have h4 : parErr l l[i] = 0 := (by rw [hpe]; simp_all)
      refine ⟨l.length - (i + 1), _, by omega, red_pure (ts := [(0, entAV l), (7, .v (.int .i64 (if (l.take (i + 1)).any (fun x => decide (¬ parErr l x = 0)) = true then 4 else 0))), (45, entAV l), (46, .v (.int .i64 l.length)), (47, .v (.int .i64 ((i + 1 : Nat) : Int)))]) ?_, i + 1, by omega, rfl, mem_take_succ hlt hsofar (by rw [h4]; decide), rfl⟩; ((repeat (first | exact tsok_nil | refine p_pure ?_ | refine p_eq ?_ ?_)); all_goals (rw [htk, List.any_append]; simp [h4]))
  obtain rfl : i = l.length := by omega
  rw [List.take_length] at *
  have hno : ¬ l.any (fun x => decide (parErr l x = 5)) = true := fun h => by
    obtain ⟨x, hx, hk⟩ := List.any_eq_true.1 h
    exact hsofar x hx (by simpa using hk)
  have hE : treeErr l = if l.any (fun x => decide (¬ parErr l x = 0)) = true then 4 else 0 := by
    unfold treeErr
    rw [if_neg h60, if_pos hz, if_pos hrise, if_neg hno]
  repeat' (first | refine walk ?_ | fail | ((first | (apply awp_cond; rfl)); all_goals (intro hc; have hp := hc; first | (simp at hp; done) | ((try simp at hp); first | (exfalso; omega) | skip))) | (apply awp_cond_any; rfl))
  all_goals try (exfalso; omega)
  apply fin_int
  rfl
  exact hE.symm
end Go.Proofs.YtkkfilkmkdnboaaDoor

/- Trees in the abstract layer, 4: check, Check, Find; the reference's EntryAt, IsFolder, CheckTree. -/
set_option linter.unusedSimpArgs false
set_option linter.unnecessarySimpa false
set_option maxHeartbeats 1000000
namespace Go.Proofs.YtkkfilkmkdnboaaDoor
open Go.Ab Go.RowKit
set_option maxRecDepth 10000
attribute [local irreducible] Awp Ops OpsX Wanted Red ExOk Go.Ab.Fin ACall Rz RzL RzRows Enters ResOk RenV RenVL ArgV ArgVL

def treeRow (t : List Ent) : List AV := [entAV t]
theorem a_checkTs (ts : List (List Ent)) (hn : ts.length ≤ 1000000) (hs : ∀ t, t ∈ ts → EBig t) : AFn C.P 58 [.sl false (ts.map treeRow)] (.v (.int .i64 (firstErr treeErr ts))) := by
  refine acall_intro Tryd.func58 rfl _ Tryd.ntmps58 (Nat.le_of_ble_eq_true rfl) _ Tryd.results58 0 rfl rfl ?_
  repeat' (first | refine walk ?_ | fail | ((first | (apply awp_cond; rfl)); all_goals (intro hc; have hp := hc; first | (simp at hp; done) | ((try simp at hp); first | (exfalso; omega) | skip))) | (apply awp_cond_any; rfl))
  (refine Awp.red (red_pure (ts := [(6, .sl false (ts.map treeRow)), (7, .v (.int .i64 ts.length)), (8, .v (.int .i64 ((0 : Nat) : Int)))]) ?_) ?_; ((repeat (first | exact tsok_nil | refine p_pure ?_ | refine p_eq ?_ ?_))))
  all_goals try (rw [List.length_map]; done)
  refine awp_loop (fun n σ => ∃ i : Nat, i ≤ ts.length ∧ n = ts.length - i ∧ (∀ t, t ∈ ts.take i → treeErr t = 0) ∧ σ = ⟨[(6, .sl false (ts.map treeRow)), (7, .v (.int .i64 ts.length)), (8, .v (.int .i64 (i : Int)))], [], C.nh⟩) ts.length ⟨0, Nat.zero_le _, rfl, (by simp), rfl⟩ ?_
  rintro n σ ⟨i, hi, rfl, hsofar, rfl⟩
  by_cases hlt : i < ts.length
  · have hr := getRow (f := treeRow) hlt
    have hct := a_checkTree ts[i] (hs _ (List.getElem_mem _))
    repeat' (first | refine walk ?_ | (first | (apply to_call Tryd.func83 rfl rfl; intro hIsFn; refine o_callp hIsFn (hct ..) ?_)) | ((first | (apply awp_cond; rfl)); all_goals (intro hc; have hp := hc; first | (simp at hp; done) | ((try simp at hp); first | (exfalso; omega) | skip))) | (apply awp_cond_any; rfl))
    all_goals try (exfalso; omega)
    · apply fin_int
      rfl
      exact (firstErr_at hlt hsofar (by assumption)).symm
    · refine ⟨ts.length - (i + 1), _, by omega, red_pure (ts := [(6, .sl false (ts.map treeRow)), (7, .v (.int .i64 ts.length)), (8, .v (.int .i64 ((i + 1 : Nat) : Int)))]) ?_, i + 1, by omega, rfl, mem_take_succ hlt hsofar (by assumption), rfl⟩; ((repeat (first | exact tsok_nil | refine p_pure ?_ | refine p_eq ?_ ?_)))
  obtain rfl : i = ts.length := by omega
  have hz : firstErr treeErr ts = 0 := firstErr_zero.2 (fun s hs => hsofar s (by rw [List.take_length]; exact hs))
  clear hsofar
  repeat' (first | refine walk ?_ | fail | ((first | (apply awp_cond; rfl)); all_goals (intro hc; have hp := hc; first | (simp at hp; done) | ((try simp at hp); first | (exfalso; omega) | skip))) | (apply awp_cond_any; rfl))
  all_goals try (exfalso; omega)
  apply fin_int
  rfl
  exact hz.symm
theorem a_checkT (l : List Ent) (hl : EBig l) : AFn C.P 58 [.sl false [[entAV l]]] (.v (.int .i64 (treeErr l))) := by
  have h := a_checkTs [l] (by simp) (by simpa using hl)
  rw [show firstErr treeErr [l] = treeErr l from by simp only [firstErr]; split <;> simp_all] at h
  exact h
theorem a_tcheck (l : List Ent) (hl : EBig l) : AFn C.P 53 [entAV l] (.v (.int .i64 (treeErr l))) := by
  have h := a_checkT l hl
  refine acall_intro Tryd.func53 rfl _ Tryd.ntmps53 (Nat.le_of_ble_eq_true rfl) _ Tryd.results53 0 rfl rfl ?_
  repeat' (first | refine walk ?_ | (first | (refine o_fzl ?_) | (apply to_call Tryd.func58 rfl rfl; intro hIsFn; refine o_callp hIsFn (h ..) ?_)) | ((first | (apply awp_cond; rfl)); all_goals (intro hc; have hp := hc; first | (simp at hp; done) | ((try simp at hp); first | (exfalso; omega) | skip))) | (apply awp_cond_any; rfl))
  all_goals (apply fin_int; rfl; rfl)

theorem a_entryAt (l : List Ent) (p : Str) (hl : l.length ≤ 140737488355328) : AFn C.P 66 [entAV l, .v (str p)] (.v (.int .i64 (idxOf (atP p) l))) := by
  refine acall_intro Tryd.func66 rfl _ Tryd.ntmps66 (Nat.le_of_ble_eq_true rfl) _ Tryd.results66 0 rfl rfl ?_
  repeat' (first | refine walk ?_ | fail | ((first | (apply awp_cond; rfl)); all_goals (intro hc; have hp := hc; first | (simp at hp; done) | ((try simp at hp); first | (exfalso; omega) | skip))) | (apply awp_cond_any; rfl))
  (refine Awp.red (red_pure (ts := [(0, entAV l), (1, .v (str p)), (5, .v (.int .i64 ((0 : Nat) : Int)))]) ?_) ?_; ((repeat (first | exact tsok_nil | refine p_pure ?_ | refine p_eq ?_ ?_))))
  refine awp_loop (fun n σ => ∃ i : Nat, i ≤ l.length ∧ n = l.length - i ∧ (∀ x, x ∈ l.take i → atP p x = false) ∧ σ = ⟨[(0, entAV l), (1, .v (str p)), (5, .v (.int .i64 (i : Int)))], [], C.nh⟩) l.length ⟨0, Nat.zero_le _, rfl, (by simp), rfl⟩ ?_
  rintro n σ ⟨i, hi, rfl, hsofar, rfl⟩
  by_cases hlt : i < l.length
  · have hr := getRow (f := Ent.row) hlt
    repeat' (first | refine walk ?_ | fail | ((first | (apply awp_cond; rfl)); all_goals (intro hc; have hp := hc; first | (simp at hp; done) | ((try simp at hp); first | (exfalso; omega) | skip))) | (apply awp_cond_any; rfl))
    all_goals try (exfalso; omega)
    · apply fin_int
      rfl
      exact (idxOf_at hlt hsofar (by simp_all [atP])).symm
    · refine ⟨l.length - (i + 1), _, by omega, red_pure (ts := [(0, entAV l), (1, .v (str p)), (5, .v (.int .i64 ((i + 1 : Nat) : Int)))]) ?_, i + 1, by omega, rfl, mem_take_succ hlt hsofar (by simp_all [atP]), rfl⟩; ((repeat (first | exact tsok_nil | refine p_pure ?_ | refine p_eq ?_ ?_)))
  obtain rfl : i = l.length := by omega
  repeat' (first | refine walk ?_ | fail | ((first | (apply awp_cond; rfl)); all_goals (intro hc; have hp := hc; first | (simp at hp; done) | ((try simp at hp); first | (exfalso; omega) | skip))) | (apply awp_cond_any; rfl))
  all_goals try (exfalso; omega)
  apply fin_int
  rfl
  rw [idxOf_none fun x hx => hsofar x (by rw [List.take_length]; exact hx)]
theorem a_isFolder (l : List Ent) (p : Str) (hl : l.length ≤ 140737488355328) : AFn C.P 34 [entAV l, .v (str p)] (.v (.int .i64 (folderErr l p))) := by
  have hea := a_entryAt l p hl
  have hE : folderErr l p = if p = [] then 0 else match l.find? (atP p) with | none => 5 | some x => if x.fold = true then 0 else 4 := rfl
  generalize folderErr l p = E at *
  rcases idxOf_find (atP p) l with ⟨h1, h2⟩ | ⟨k, hk, h1, h2⟩
  · rw [h1] at hea
    rw [h2] at hE
    refine acall_intro Tryd.func34 rfl _ Tryd.ntmps34 (Nat.le_of_ble_eq_true rfl) _ Tryd.results34 0 rfl rfl ?_
    repeat' (first | refine walk ?_ | (first | (apply to_call Tryd.func66 rfl rfl; intro hIsFn; refine o_callf hIsFn (hea ..) ?_; skip)) | ((first | (apply awp_cond; rfl)); all_goals (intro hc; have hp := hc; first | (simp at hp; done) | ((try simp at hp); first | (exfalso; omega) | skip))) | (apply awp_cond_any; rfl))
    all_goals try (exfalso; omega)
    all_goals (apply fin_int; rfl; simp_all)
  · rw [h1] at hea
    rw [h2] at hE
    have hr := getRow (f := Ent.row) hk
    refine acall_intro Tryd.func34 rfl _ Tryd.ntmps34 (Nat.le_of_ble_eq_true rfl) _ Tryd.results34 0 rfl rfl ?_
    repeat' (first | refine walk ?_ | (first | (apply to_call Tryd.func66 rfl rfl; intro hIsFn; refine o_callf hIsFn (hea ..) ?_; skip)) | ((first | (apply awp_cond; rfl)); all_goals (intro hc; have hp := hc; first | (simp at hp; done) | ((try simp at hp); first | (exfalso; omega) | skip))) | (apply awp_cond_any; rfl))
    all_goals try (exfalso; omega)
    all_goals (apply fin_int; rfl; simp_all)
end Go.Proofs.YtkkfilkmkdnboaaDoor

/- Trees in the abstract layer, 5: the reference's CheckTree. -/
set_option linter.unusedSimpArgs false
set_option linter.unnecessarySimpa false
set_option maxHeartbeats 1000000
namespace Go.Proofs.YtkkfilkmkdnboaaDoor
open Go.Ab Go.RowKit
set_option maxRecDepth 10000
attribute [local irreducible] Awp Ops OpsX Wanted Red ExOk Go.Ab.Fin ACall Rz RzL RzRows Enters ResOk RenV RenVL ArgV ArgVL

theorem entErr_form {e : Ent} (h : ¬ pathErr e.path = 0) : entErr e = pathErr e.path := by simp [entErr, h]
theorem entErr_rest {e : Ent} (h : pathErr e.path = 0) : entErr e = (if e.fold = true ∧ ¬ e.text = [] then 1 else if 300 < e.text.length then 2 else if isVer e.ver = true then 0 else 3) := by simp [entErr, h]
end Go.Proofs.YtkkfilkmkdnboaaDoor

/- Changes in the abstract layer, 1: their form; may they be made? -/
set_option linter.unusedSimpArgs false
set_option linter.unnecessarySimpa false
set_option linter.unusedVariables false
set_option maxHeartbeats 1000000
namespace Go.Proofs.YtkkfilkmkdnboaaDoor
open Go.Ab Go.RowKit
set_option maxRecDepth 10000
attribute [local irreducible] Awp Ops OpsX Wanted Red ExOk Go.Ab.Fin ACall Rz RzL RzRows Enters ResOk RenV RenVL ArgV ArgVL

def chgRest (c : Chg) : Int := if (¬ c.kind = 3 ∧ ¬ c.to = []) ∨ (¬ c.kind = 2 ∧ ¬ c.text = []) then 1 else if 300 < c.text.length then 2 else if c.base < -1 ∨ 1000000 < c.base then 3 else 0
def chgErr (c : Chg) : Int :=
  if c.kind < 1 ∨ 4 < c.kind then 7
  else if ¬ pathErr c.path = 0 then pathErr c.path
  else if c.kind = 3 ∧ ¬ pathErr c.to = 0 then pathErr c.to
  else chgRest c
theorem a_form (c : Chg) (hc : c.small) : AFn C.P 100 [.agg c.row] (.v (.int .i64 (chgErr c))) := by
  obtain ⟨h1, h2, h3⟩ := hc
  have hpp := a_pcheck c.path (by omega)
  have ht := a_pcheck c.to (by omega)
  have hR : chgRest c = if (¬ c.kind = 3 ∧ ¬ c.to = []) ∨ (¬ c.kind = 2 ∧ ¬ c.text = []) then 1 else if 300 < c.text.length then 2 else if c.base < -1 ∨ 1000000 < c.base then 3 else 0 := rfl
  have hE : chgErr c = if c.kind < 1 ∨ 4 < c.kind then 7 else if ¬ pathErr c.path = 0 then pathErr c.path else if c.kind = 3 ∧ ¬ pathErr c.to = 0 then pathErr c.to else chgRest c := rfl
  generalize chgErr c = E at *
  generalize chgRest c = R at *
  generalize pathErr c.path = F at *
  generalize pathErr c.to = G at *
  refine acall_intro Tryd.func100 rfl _ Tryd.ntmps100 (Nat.le_of_ble_eq_true rfl) _ Tryd.results100 0 rfl rfl ?_
  repeat' (first | refine walk ?_ | (first | (apply to_call Tryd.func59 rfl rfl; intro hIsFn; refine o_callf hIsFn (hpp ..) ?_; skip) | (apply to_call Tryd.func59 rfl rfl; intro hIsFn; refine o_callf hIsFn (ht ..) ?_; skip)) | ((first | (apply ops_split_t; rfl; rfl; exact nle rfl) | (apply ops_split_f; rfl; rfl; exact nle rfl) | (apply awp_cond; rfl)); all_goals (intro hc; have hp := hc; first | (simp at hp; done) | ((try simp at hp); first | (exfalso; omega) | skip))) | (apply awp_cond_any; rfl))
  all_goals try (exfalso; omega)
  all_goals (apply fin_int; rfl)
  all_goals (rw [hE])
  all_goals first
    | (rw [if_pos (by omega)]; done)
    | (rw [if_neg (by omega)]
       first
       | (rw [if_pos (by assumption)]; done)
       | (rw [if_neg (by omega)]
          first
          | (rw [if_pos ⟨by assumption, by assumption⟩]; done)
          | (rw [if_neg (by rintro ⟨_, _⟩; simp_all), hR]
             first
             | (rw [if_pos (by simp_all)]; done)
             | (rw [if_neg (by simp_all)]
                first
                | (rw [if_pos (by omega)]; done)
                | (rw [if_neg (by omega)]
                   first
                   | (rw [if_pos (by omega)]; done)
                   | (rw [if_neg (by omega)]; done))))))
end Go.Proofs.YtkkfilkmkdnboaaDoor

/- Changes in the abstract layer, 2: may one be made? -/
set_option linter.unusedSimpArgs false
set_option linter.unnecessarySimpa false
set_option linter.unusedVariables false
set_option maxHeartbeats 1000000
namespace Go.Proofs.YtkkfilkmkdnboaaDoor
open Go.Ab Go.RowKit
set_option maxRecDepth 10000
attribute [local irreducible] Awp Ops OpsX Wanted Red ExOk Go.Ab.Fin ACall Rz RzL RzRows Enters ResOk RenV RenVL ArgV ArgVL

theorem a_indexE (p : Ent → Bool) (g : FuncId) (hg : IsFn C.P g) (cap : List AV) (hcap : AV.pure.pureL cap = true) (l : List (Ent)) (hl : l.length ≤ 1000000) (hc : ∀ s, s ∈ l → AFn C.P g ((AV.agg (Ent.row s)) :: cap) (.v (.bool (p s)))) :
    AFn C.P 147 [.sl false (l.map Ent.row), .clo (.func g) [] cap] (.v (.int .i64 (idxOf p l))) := by
  refine acall_intro Tryd.func147 rfl _ Tryd.ntmps147 (Nat.le_of_ble_eq_true rfl) _ Tryd.results147 0 rfl rfl ?_
  repeat' (first | refine walk ?_ | fail | ((first | (apply awp_cond; rfl)); all_goals (intro hc; have hp := hc; first | (simp at hp; done) | ((try simp at hp); first | (exfalso; omega) | skip))) | (apply awp_cond_any; rfl))
  (refine Awp.red (red_pure (ts := [(0, .sl false (l.map Ent.row)), (1, .clo (.func g) [] cap), (7, .v (.int .i64 l.length)), (8, .v (.int .i64 ((0 : Nat) : Int)))]) ?_) ?_; ((repeat (first | exact tsok_nil | refine p_pure ?_ | refine p_eq ?_ ?_))))
  all_goals try (rw [List.length_map]; done)
  refine awp_loop (fun n σ => ∃ i : Nat, i ≤ l.length ∧ n = l.length - i ∧ (∀ s, s ∈ l.take i → p s = false) ∧ σ = ⟨[(0, .sl false (l.map Ent.row)), (1, .clo (.func g) [] cap), (7, .v (.int .i64 l.length)), (8, .v (.int .i64 (i : Int)))], [], C.nh⟩) l.length ⟨0, Nat.zero_le _, rfl, (by simp), rfl⟩ ?_
  rintro n σ ⟨i, hi, rfl, hsofar, rfl⟩
  by_cases hlt : i < l.length
  · have hr := getRow (f := Ent.row) hlt
    have hci := hc l[i] (List.getElem_mem _)
    repeat' (first | refine walk ?_ | (first | (apply opsx_val; apply ex_callv []; rfl; exact hg; exact hci; (case hz => exact rzl_cons (rz_pure rfl) (rzl_self hcap)); (case hfl => rfl); (case hN => exact nle rfl))) | ((first | (apply awp_cond; rfl)); all_goals (intro hc; have hp := hc; first | (simp at hp; done) | ((try simp at hp); first | (exfalso; omega) | skip))) | (apply awp_cond_any; rfl))
    all_goals try (exfalso; omega)
    · apply fin_int
      rfl
      exact (idxOf_at hlt hsofar hp).symm
    · refine ⟨l.length - (i + 1), _, by omega, red_pure (ts := [(0, .sl false (l.map Ent.row)), (1, .clo (.func g) [] cap), (7, .v (.int .i64 l.length)), (8, .v (.int .i64 ((i + 1 : Nat) : Int)))]) ?_, i + 1, by omega, rfl, mem_take_succ hlt hsofar hp, rfl⟩; ((repeat (first | exact tsok_nil | refine p_pure ?_ | refine p_eq ?_ ?_)))
  obtain rfl : i = l.length := by omega
  repeat' (first | refine walk ?_ | fail | ((first | (apply awp_cond; rfl)); all_goals (intro hc; have hp := hc; first | (simp at hp; done) | ((try simp at hp); first | (exfalso; omega) | skip))) | (apply awp_cond_any; rfl))
  all_goals try (exfalso; omega)
  apply fin_int
  rfl
  exact (idxOf_none fun s hs => hsofar s (by rw [List.take_length]; exact hs)).symm
theorem a_containsE (p : Ent → Bool) (g : FuncId) (hg : IsFn C.P g) (cap : List AV) (hcap : AV.pure.pureL cap = true) (l : List (Ent)) (hl : l.length ≤ 1000000) (hc : ∀ s, s ∈ l → AFn C.P g ((AV.agg (Ent.row s)) :: cap) (.v (.bool (p s)))) :
    AFn C.P 129 [.sl false (l.map Ent.row), .clo (.func g) [] cap] (.v (.bool (l.any p))) := by
  have hidx := a_indexE p g hg cap hcap l hl hc
  refine acall_intro Tryd.func129 rfl _ Tryd.ntmps129 (Nat.le_of_ble_eq_true rfl) _ Tryd.results129 0 rfl rfl ?_
  repeat' (first | refine walk ?_ | (first | (apply opsx_val; apply ex_call []; exact isFn_of Tryd.func147 rfl rfl; exact hidx; (case hz => exact rzl_cons (rz_pure rfl) (rzl_cons (rz_clo_pure hcap) rzl_nil)); (case hfl => rfl); (case hN => exact nle rfl))) | ((first | (apply awp_cond; rfl)); all_goals (intro hc; have hp := hc; first | (simp at hp; done) | ((try simp at hp); first | (exfalso; omega) | skip))) | (apply awp_cond_any; rfl))
  apply fin_bool
  rfl
  rw [← idxOf_any]
def goalOf (c : Chg) : Str := if c.kind = 3 then c.to else c.path
def newer (c : Chg) (x : Ent) : Bool := decide (c.base < x.ver) && inB x.path c.path
def foldAt (t : List Ent) (p : Str) : Bool := match t.find? (atP p) with | some x => x.fold | none => false
def isErr (t : List Ent) (c : Chg) : Int := if c.kind = 1 then (if hitE t c.path = true then 6 else 0) else if c.kind = 2 then (if foldAt t c.path = true then 4 else 0) else (if hitE t c.path = true then 0 else 5)
def mvErr (t : List Ent) (c : Chg) : Int := if c.kind = 3 then (if inB c.to c.path = true then 3 else if hitE t c.to = true then 6 else 0) else 0
def staleErr (t : List Ent) (c : Chg) : Int := if ¬ c.base = -1 ∧ t.any (newer c) = true then 8 else 0
def mayErr (t : List Ent) (c : Chg) : Int :=
  if ¬ folderErr t (parentOf (goalOf c)) = 0 then folderErr t (parentOf (goalOf c))
  else if ¬ isErr t c = 0 then isErr t c
  else if ¬ mvErr t c = 0 then mvErr t c else staleErr t c
theorem a_mayC (x : Ent) (c : Chg) (hc : c.path.length ≤ 140737488355328) : AFn C.P 128 [.agg x.row, .fp [c.row] 0 0] (.v (.bool (newer c x))) := by
  have hin := a_in x.path c.path hc
  have hE : newer c x = (decide (c.base < x.ver) && inB x.path c.path) := rfl
  generalize newer c x = E at *
  generalize inB x.path c.path = I at *
  refine acall_intro Tryd.func128 rfl _ Tryd.ntmps128 (Nat.le_of_ble_eq_true rfl) _ Tryd.results128 0 rfl rfl ?_
  repeat' (first | refine walk ?_ | (first | (apply to_call Tryd.func127 rfl rfl; intro hIsFn; refine o_callf hIsFn (hin ..) ?_; skip)) | ((first | (apply ops_split_t; rfl; rfl; exact nle rfl) | (apply ops_split_f; rfl; rfl; exact nle rfl) | (apply awp_cond; rfl)); all_goals (intro hc; have hp := hc; first | (simp at hp; done) | ((try simp at hp); first | (exfalso; omega) | skip))) | (apply awp_cond_any; rfl))
  all_goals (apply fin_bool; rfl; rw [hE]; simp_all; try (intro _; omega))
theorem a_may (t : List Ent) (c : Chg) (hl : t.length ≤ 1000000) (hs : rising entLt t = true) (hcs : c.small) : AFn C.P 101 [entAV t, .agg c.row] (.v (.int .i64 (mayErr t c))) := by
  obtain ⟨l1, l2, l3⟩ := hcs
  have hpa := a_parentT t (goalOf c) (by omega) hs (by unfold goalOf; split <;> omega)
  have hfe := parEnt_err t (goalOf c)
  have hat := a_at t c.path (by omega) hs
  have hat2 := a_at t c.to (by omega) hs
  have hin := a_in c.to c.path (by omega)
  have hcon := a_containsE (newer c) 128 (isFn_of Tryd.func128 rfl rfl) [.fp [c.row] 0 0] rfl t hl (fun x _ => a_mayC x c (by omega))
  have hE : mayErr t c = if ¬ folderErr t (parentOf (goalOf c)) = 0 then folderErr t (parentOf (goalOf c)) else if ¬ isErr t c = 0 then isErr t c else if ¬ mvErr t c = 0 then mvErr t c else staleErr t c := rfl
  have hI : isErr t c = if c.kind = 1 then (if hitE t c.path = true then 6 else 0) else if c.kind = 2 then (if foldAt t c.path = true then 4 else 0) else (if hitE t c.path = true then 0 else 5) := rfl
  have hM : mvErr t c = if c.kind = 3 then (if inB c.to c.path = true then 3 else if hitE t c.to = true then 6 else 0) else 0 := rfl
  have hS : staleErr t c = if ¬ c.base = -1 ∧ t.any (newer c) = true then 8 else 0 := rfl
  have hrow : hitE t c.path = true → ∃ hk : posE t c.path < t.length, foldAt t c.path = t[posE t c.path].fold := fun h => by
    obtain ⟨hk, _, hfi, _⟩ := hitE_at hs h
    exact ⟨hk, by unfold foldAt; rw [hfi]⟩
  have hnorow : hitE t c.path = false → foldAt t c.path = false := fun h => by
    unfold foldAt; rw [(hitE_none h).1]
  have hg3 : c.kind = 3 → goalOf c = c.to := fun h => by simp [goalOf, h]
  have hg0 : ¬ c.kind = 3 → goalOf c = c.path := fun h => by simp [goalOf, h]
  generalize mayErr t c = E at *
  generalize isErr t c = I at *
  generalize mvErr t c = Mv at *
  generalize staleErr t c = S at *
  generalize t.any (newer c) = NW at *
  generalize inB c.to c.path = IB at *
  generalize hitE t c.to = HT at *
  generalize posE t c.to = PT at *
  generalize folderErr t (parentOf (goalOf c)) = FE at *
  generalize parOk t (goalOf c) = OK at *
  generalize parEnt t (goalOf c) = PE at *
  cases hh : hitE t c.path with
  | true =>
    obtain ⟨hk, hfo⟩ := hrow hh
    rw [hh] at hat hI
    rw [hfo] at hI
    have hr := getRow (f := Ent.row) hk
    clear hrow hnorow
    generalize posE t c.path = k at *
    by_cases k3 : c.kind = 3
    · rw [hg3 k3] at hpa
      refine acall_intro Tryd.func101 rfl _ Tryd.ntmps101 (Nat.le_of_ble_eq_true rfl) _ Tryd.results101 0 rfl rfl ?_
      repeat' (first | refine walk ?_ | (first | (apply to_call Tryd.func107 rfl rfl; intro hIsFn; refine o_callp hIsFn (hpa ..) ?_) | (apply to_call Tryd.func60 rfl rfl; intro hIsFn; refine o_callp hIsFn (hat ..) ?_) | (apply to_call Tryd.func60 rfl rfl; intro hIsFn; refine o_callp hIsFn (hat2 ..) ?_) | (apply to_call Tryd.func127 rfl rfl; intro hIsFn; refine o_callf hIsFn (hin ..) ?_; skip) | (apply opsx_val; apply ex_call ([0]); exact isFn_of Tryd.func129 rfl rfl; exact hcon; (case hz => (refine rzl_cons (rz_pure rfl) (rzl_cons (rz_clo rzl_nil (rzl_cons (rz_op rfl (by simp) (rzrows_pure (fun row hrow => by rw [List.mem_singleton.1 hrow]; rfl))) rzl_nil)) rzl_nil))); (case hfl => rfl); (case hN => exact nle rfl))) | ((first | (apply ops_split_t; rfl; rfl; exact nle rfl) | (apply ops_split_f; rfl; rfl; exact nle rfl) | (apply awp_cond; rfl)); all_goals (intro hc; have hp := hc; first | (simp at hp; done) | ((try simp at hp); first | (exfalso; omega) | skip))) | (apply awp_cond_any; rfl))
      all_goals try (exfalso; omega)
      all_goals (apply fin_int; rfl; clear hat hat2 hcon hpa hin; simp_all)
    · rw [hg0 k3] at hpa
      refine acall_intro Tryd.func101 rfl _ Tryd.ntmps101 (Nat.le_of_ble_eq_true rfl) _ Tryd.results101 0 rfl rfl ?_
      repeat' (first | refine walk ?_ | (first | (apply to_call Tryd.func107 rfl rfl; intro hIsFn; refine o_callp hIsFn (hpa ..) ?_) | (apply to_call Tryd.func60 rfl rfl; intro hIsFn; refine o_callp hIsFn (hat ..) ?_) | (apply to_call Tryd.func60 rfl rfl; intro hIsFn; refine o_callp hIsFn (hat2 ..) ?_) | (apply to_call Tryd.func127 rfl rfl; intro hIsFn; refine o_callf hIsFn (hin ..) ?_; skip) | (apply opsx_val; apply ex_call ([0]); exact isFn_of Tryd.func129 rfl rfl; exact hcon; (case hz => (refine rzl_cons (rz_pure rfl) (rzl_cons (rz_clo rzl_nil (rzl_cons (rz_op rfl (by simp) (rzrows_pure (fun row hrow => by rw [List.mem_singleton.1 hrow]; rfl))) rzl_nil)) rzl_nil))); (case hfl => rfl); (case hN => exact nle rfl))) | ((first | (apply ops_split_t; rfl; rfl; exact nle rfl) | (apply ops_split_f; rfl; rfl; exact nle rfl) | (apply awp_cond; rfl)); all_goals (intro hc; have hp := hc; first | (simp at hp; done) | ((try simp at hp); first | (exfalso; omega) | skip))) | (apply awp_cond_any; rfl))
      all_goals try (exfalso; omega)
      all_goals (apply fin_int; rfl; clear hat hat2 hcon hpa hin; simp_all)
  | false =>
    have hfo := hnorow hh
    rw [hh] at hat hI
    rw [hfo] at hI
    clear hrow hnorow
    generalize posE t c.path = k at *
    by_cases k3 : c.kind = 3
    · rw [hg3 k3] at hpa
      refine acall_intro Tryd.func101 rfl _ Tryd.ntmps101 (Nat.le_of_ble_eq_true rfl) _ Tryd.results101 0 rfl rfl ?_
      repeat' (first | refine walk ?_ | (first | (apply to_call Tryd.func107 rfl rfl; intro hIsFn; refine o_callp hIsFn (hpa ..) ?_) | (apply to_call Tryd.func60 rfl rfl; intro hIsFn; refine o_callp hIsFn (hat ..) ?_) | (apply to_call Tryd.func60 rfl rfl; intro hIsFn; refine o_callp hIsFn (hat2 ..) ?_) | (apply to_call Tryd.func127 rfl rfl; intro hIsFn; refine o_callf hIsFn (hin ..) ?_; skip)) | ((first | (apply ops_split_t; rfl; rfl; exact nle rfl) | (apply ops_split_f; rfl; rfl; exact nle rfl) | (apply awp_cond; rfl)); all_goals (intro hc; have hp := hc; first | (simp at hp; done) | ((try simp at hp); first | (exfalso; omega) | skip))) | (apply awp_cond_any; rfl))
      all_goals try (exfalso; omega)
      all_goals (apply fin_int; rfl; clear hat hat2 hcon hpa hin; simp_all)
    · rw [hg0 k3] at hpa
      refine acall_intro Tryd.func101 rfl _ Tryd.ntmps101 (Nat.le_of_ble_eq_true rfl) _ Tryd.results101 0 rfl rfl ?_
      repeat' (first | refine walk ?_ | (first | (apply to_call Tryd.func107 rfl rfl; intro hIsFn; refine o_callp hIsFn (hpa ..) ?_) | (apply to_call Tryd.func60 rfl rfl; intro hIsFn; refine o_callp hIsFn (hat ..) ?_) | (apply to_call Tryd.func60 rfl rfl; intro hIsFn; refine o_callp hIsFn (hat2 ..) ?_) | (apply to_call Tryd.func127 rfl rfl; intro hIsFn; refine o_callf hIsFn (hin ..) ?_; skip) | (apply opsx_val; apply ex_call ([0]); exact isFn_of Tryd.func129 rfl rfl; exact hcon; (case hz => (refine rzl_cons (rz_pure rfl) (rzl_cons (rz_clo rzl_nil (rzl_cons (rz_op rfl (by simp) (rzrows_pure (fun row hrow => by rw [List.mem_singleton.1 hrow]; rfl))) rzl_nil)) rzl_nil))); (case hfl => rfl); (case hN => exact nle rfl))) | ((first | (apply ops_split_t; rfl; rfl; exact nle rfl) | (apply ops_split_f; rfl; rfl; exact nle rfl) | (apply awp_cond; rfl)); all_goals (intro hc; have hp := hc; first | (simp at hp; done) | ((try simp at hp); first | (exfalso; omega) | skip))) | (apply awp_cond_any; rfl))
      all_goals try (exfalso; omega)
      all_goals (apply fin_int; rfl; clear hat hat2 hcon hpa hin; simp_all)
end Go.Proofs.YtkkfilkmkdnboaaDoor
