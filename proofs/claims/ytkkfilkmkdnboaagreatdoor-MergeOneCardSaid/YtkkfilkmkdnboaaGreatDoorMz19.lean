import Derived.Test.YtkkfilkmkdnboaaGreatDoorMz15
import Derived.Test.YtkkfilkmkdnboaaGreatDoorMz18
import Derived.Test.YtkkfilkmkdnboaaGreatDoorMz3
import Derived.Test.YtkkfilkmkdnboaaGreatDoorMz13
/- Trees in the abstract layer, 1: versions, entries, the place of a path, the parent. -/
set_option linter.unusedSimpArgs false
set_option linter.unnecessarySimpa false
set_option maxHeartbeats 1000000
namespace Go.Proofs.YtkkfilkmkdnboaaGreatDoor
open Go.Ab Go.RowKit
set_option maxRecDepth 10000
attribute [local irreducible] Awp Ops OpsX Wanted Red ExOk Go.Ab.Fin ACall Rz RzL RzRows Enters ResOk RenV RenVL ArgV ArgVL

theorem a_isNaN (s : Str) : AFn C.P 70 [.v (str s)] (.v (.bool false)) := by
  refine acall_intro Tryz.func70 rfl _ Tryz.ntmps70 (Nat.le_of_ble_eq_true rfl) _ Tryz.results70 0 rfl rfl ?_
  repeat' (first | refine walk ?_ | fail | ((first | (apply awp_cond; rfl)); all_goals (intro hc; have hp := hc; first | (simp at hp; done) | ((try simp at hp); first | (exfalso; omega) | skip))) | (apply awp_cond_any; rfl))
  all_goals (apply fin_bool; rfl; simp)
theorem a_compare (a b : Str) : AFn C.P 56 [.v (str a), .v (str b)] (.v (.int .i64 (strCmp a b))) := by
  refine acall_intro Tryz.func56 rfl _ Tryz.ntmps56 (Nat.le_of_ble_eq_true rfl) _ Tryz.results56 0 rfl rfl ?_
  repeat' (first | refine walk ?_ | (first | (apply to_call Tryz.func70 rfl rfl; intro hIsFn; refine o_callf hIsFn (a_isNaN ..) ?_; skip)) | ((first | (apply awp_cond; rfl)); all_goals (intro hc; have hp := hc; first | (simp at hp; done) | ((try simp at hp); first | (exfalso; omega) | skip))) | (apply awp_cond_any; rfl))
  all_goals (apply fin_int; rfl; simp_all [strCmp])
theorem a_isVerT (n : Int) : AFn C.P 72 [.v (.int .i64 n)] (.v (.bool (isVer n))) := by
  refine acall_intro Tryz.func72 rfl _ Tryz.ntmps72 (Nat.le_of_ble_eq_true rfl) _ Tryz.results72 0 rfl rfl ?_
  repeat' (first | refine walk ?_ | fail | ((first | (apply ops_split_t; rfl; rfl; exact nle rfl) | (apply ops_split_f; rfl; rfl; exact nle rfl) | (apply awp_cond; rfl)); all_goals (intro hc; have hp := hc; first | (simp at hp; done) | ((try simp at hp); first | (exfalso; omega) | skip))) | (apply awp_cond_any; rfl))
  all_goals (apply fin_bool; rfl; simp_all [isVer]; try (intro _; omega))
theorem a_isVerR (n : Int) : AFn C.P 41 [.v (.int .i64 n)] (.v (.bool (isVer n))) := by
  refine acall_intro Tryz.func41 rfl _ Tryz.ntmps41 (Nat.le_of_ble_eq_true rfl) _ Tryz.results41 0 rfl rfl ?_
  repeat' (first | refine walk ?_ | fail | ((first | (apply ops_split_t; rfl; rfl; exact nle rfl) | (apply ops_split_f; rfl; rfl; exact nle rfl) | (apply awp_cond; rfl)); all_goals (intro hc; have hp := hc; first | (simp at hp; done) | ((try simp at hp); first | (exfalso; omega) | skip))) | (apply awp_cond_any; rfl))
  all_goals (apply fin_bool; rfl; simp_all [isVer]; try (intro _; omega))
theorem a_checkEntry (e : Ent) (he : e.small) : AFn C.P 58 [.agg e.row] (.v (.int .i64 (entErr e))) := by
  have h1 := he.1
  have h2 := he.2
  have hp := a_pcheck e.path (by omega)
  have hv := a_isVerT e.ver
  have hE : entErr e = if pathErr e.path = 0 then (if e.fold = true ∧ ¬ e.text = [] then 1 else if 300 < e.text.length then 2 else if isVer e.ver = true then 0 else 3) else pathErr e.path := rfl
  generalize entErr e = E at *
  generalize isVer e.ver = V at *
  generalize pathErr e.path = F at *
  refine acall_intro Tryz.func58 rfl _ Tryz.ntmps58 (Nat.le_of_ble_eq_true rfl) _ Tryz.results58 0 rfl rfl ?_
  repeat' (first | refine walk ?_ | (first | (apply to_call Tryz.func71 rfl rfl; intro hIsFn; refine o_callf hIsFn (hp ..) ?_; skip) | (apply to_call Tryz.func72 rfl rfl; intro hIsFn; refine o_callf hIsFn (hv ..) ?_; skip)) | ((first | (apply ops_split_t; rfl; rfl; exact nle rfl) | (apply ops_split_f; rfl; rfl; exact nle rfl) | (apply awp_cond; rfl)); all_goals (intro hc; have hp := hc; first | (simp at hp; done) | ((try simp at hp); first | (exfalso; omega) | skip))) | (apply awp_cond_any; rfl))
  all_goals try (exfalso; omega)
  all_goals (apply fin_int; rfl; rw [hE]; simp_all; try omega)
theorem a_atC (e : Ent) (p : Str) : AFn C.P 55 [.agg e.row, .v (str p)] (.v (.int .i64 (strCmp e.path p))) := by
  refine acall_intro Tryz.func55 rfl _ Tryz.ntmps55 (Nat.le_of_ble_eq_true rfl) _ Tryz.results55 0 rfl rfl ?_
  repeat' (first | refine walk ?_ | (first | (apply to_call Tryz.func56 rfl rfl; intro hIsFn; refine o_callf hIsFn (a_compare ..) ?_; skip)) | ((first | (apply awp_cond; rfl)); all_goals (intro hc; have hp := hc; first | (simp at hp; done) | ((try simp at hp); first | (exfalso; omega) | skip))) | (apply awp_cond_any; rfl))
  all_goals (apply fin_int; rfl; rfl)
theorem a_searchE (l : List Ent) (p : Str) (hl : l.length ≤ 140737488355328) (hs : rising entLt l = true) :
    AFn C.P 54 [entAV l, .v (str p), .clo (.func 55) [] []] (.tup [.v (.int .i64 (posE l p)), .v (.bool (hitE l p))]) := by
  refine acall_intro Tryz.func54 rfl _ Tryz.ntmps54 (Nat.le_of_ble_eq_true rfl) _ Tryz.results54 0 rfl rfl ?_
  repeat' (first | refine walk ?_ | fail | ((first | (apply ops_split_t; rfl; rfl; exact nle rfl) | (apply ops_split_f; rfl; rfl; exact nle rfl) | (apply awp_cond; rfl)); all_goals (intro hc; have hp := hc; first | (simp at hp; done) | ((try simp at hp); first | (exfalso; omega) | skip))) | (apply awp_cond_any; rfl))
  (refine Awp.red (red_pure (ts := [(0, entAV l), (1, .v (str p)), (2, .clo (.func 55) [] []), (8, .v (.int .i64 l.length)), (9, .v (.int .i64 ((0 : Nat) : Int))), (10, .v (.int .i64 l.length))]) ?_) ?_; ((repeat (first | exact tsok_nil | refine p_pure ?_ | refine p_eq ?_ ?_))))
  all_goals try (rw [List.length_map]; done)
  refine awp_loop (fun n σ => ∃ lo hi : Nat, lo ≤ hi ∧ hi ≤ l.length ∧ n = hi - lo ∧ (∀ (k : Nat) (h : k < l.length), k < lo → Op.bytesLess l[k].path p = true) ∧ (∀ (k : Nat) (h : k < l.length), hi ≤ k → Op.bytesLess l[k].path p = false) ∧ σ = ⟨[(0, entAV l), (1, .v (str p)), (2, .clo (.func 55) [] []), (8, .v (.int .i64 l.length)), (9, .v (.int .i64 ((lo : Nat) : Int))), (10, .v (.int .i64 ((hi : Nat) : Int)))], [], C.nh⟩) l.length ⟨0, l.length, by omega, Nat.le_refl _, rfl, fun _ _ h => absurd h (by omega), fun _ _ h => absurd h (by omega), rfl⟩ ?_
  rintro n σ ⟨lo, hi, hle, hhi, rfl, h1, h2, rfl⟩
  by_cases hlt : lo < hi
  · obtain ⟨m, hm⟩ : ∃ m : Nat, m = (lo + hi) / 2 := ⟨_, rfl⟩
    have hmi : ((lo : Int) + (hi : Int)) / 2 = (m : Int) := by omega
    have hml : m < l.length := by omega
    have hr := getRow (f := Ent.row) hml
    have hr2 : (l.map Ent.row)[(((lo : Int) + (hi : Int)) / 2).toNat]? = some l[m].row := by rw [hmi]; exact hr
    repeat' (first | refine walk ?_ | (first | (apply opsx_val; first | (apply ex_conv_u; rfl; rfl; rfl; rfl; rfl; omega; omega; exact nle rfl) | (apply ex_conv_i; rfl; rfl; rfl; rfl; rfl; omega; omega; exact nle rfl)) | (apply opsx_val; apply ex_half; (case hx => rfl); (case hy => rfl); (case hk => decide); (case hN => exact nle rfl)) | (refine o_callv Tryz.func55 (a_atC ..) ?_)) | ((first | (apply ops_split_t; rfl; rfl; exact nle rfl) | (apply ops_split_f; rfl; rfl; exact nle rfl) | (apply awp_cond; rfl)); all_goals (intro hc; have hp := hc; first | (simp at hp; done) | ((try simp at hp); first | (exfalso; omega) | skip))) | (apply awp_cond_any; rfl))
    all_goals try (exfalso; omega)
    · have hmg : Op.bytesLess l[m].path p = true := (strCmp_neg _ _).1 hp
      refine ⟨hi - (m + 1), _, by omega, red_pure (ts := [(0, entAV l), (1, .v (str p)), (2, .clo (.func 55) [] []), (8, .v (.int .i64 l.length)), (9, .v (.int .i64 ((m + 1 : Nat) : Int))), (10, .v (.int .i64 ((hi : Nat) : Int)))]) ?_, m + 1, hi, by omega, hhi, rfl, fun k h hk => ?_, h2, rfl⟩
      · (repeat (first | exact tsok_nil | refine p_pure ?_ | refine p_eq ?_ ?_))
        all_goals (rw [hmi]; rfl)
      · by_cases e : k = m
        · subst e; exact hmg
        · exact bl_trans (rising_ltE hs k m h hml (by omega)) hmg
    · have hmg : Op.bytesLess l[m].path p = false := (by
        cases h : Op.bytesLess l[m].path p
        · rfl
        · have := (strCmp_neg _ _).2 h; omega)
      refine ⟨m - lo, _, by omega, red_pure (ts := [(0, entAV l), (1, .v (str p)), (2, .clo (.func 55) [] []), (8, .v (.int .i64 l.length)), (9, .v (.int .i64 ((lo : Nat) : Int))), (10, .v (.int .i64 ((m : Nat) : Int)))]) ?_, lo, m, by omega, by omega, rfl, h1, fun k h hk => ?_, rfl⟩
      · (repeat (first | exact tsok_nil | refine p_pure ?_ | refine p_eq ?_ ?_))
        all_goals (rw [hmi])
      · by_cases e : k = m
        · subst e; exact hmg
        · cases hkg : Op.bytesLess l[k].path p
          · rfl
          · rw [bl_trans (rising_ltE hs m k hml h (by omega)) hkg] at hmg; cases hmg
  obtain rfl : lo = hi := by omega
  have hpos : posE l p = lo := posE_is hhi h1 (fun h => h2 lo h (by omega))
  by_cases hin : lo < l.length
  · have hr := getRow (f := Ent.row) hin
    have hhit : hitE l p = decide (strCmp l[lo].path p = 0) := by
      rw [hitE_pos hs, hpos, List.getElem?_eq_getElem hin]
    repeat' (first | refine walk ?_ | (first | (refine o_callv Tryz.func55 (a_atC ..) ?_)) | ((first | (apply ops_split_t; rfl; rfl; exact nle rfl) | (apply ops_split_f; rfl; rfl; exact nle rfl) | (apply awp_cond; rfl)); all_goals (intro hc; have hp := hc; first | (simp at hp; done) | ((try simp at hp); first | (exfalso; omega) | skip))) | (apply awp_cond_any; rfl))
    all_goals try (exfalso; omega)
    rw [hpos, hhit]
    (refine f_pure (rs := [.tmp 6, .tmp 7]) ?_; (repeat' (first | exact rzl_nil | apply rzl_cons | exact rz_pure rfl | exact rz_ex | exact z_os | apply rz_agg | apply rz_tup | apply rz_clo | apply rz_int | apply rz_bool | apply rz_str | refine z_eq ?_ | apply rz_sl)); all_goals trace_state)
  · have hhit : hitE l p = false := by
      rw [hitE_pos hs, hpos, List.getElem?_eq_none (by omega)]
    repeat' (first | refine walk ?_ | (first | (refine o_callv Tryz.func55 (a_atC ..) ?_)) | ((first | (apply ops_split_t; rfl; rfl; exact nle rfl) | (apply ops_split_f; rfl; rfl; exact nle rfl) | (apply awp_cond; rfl)); all_goals (intro hc; have hp := hc; first | (simp at hp; done) | ((try simp at hp); first | (exfalso; omega) | skip))) | (apply awp_cond_any; rfl))
    all_goals try (exfalso; omega)
    rw [hpos, hhit]
    (refine f_pure (rs := [.tmp 6, .tmp 7]) ?_; (repeat' (first | exact rzl_nil | apply rzl_cons | exact rz_pure rfl | exact rz_ex | exact z_os | apply rz_agg | apply rz_tup | apply rz_clo | apply rz_int | apply rz_bool | apply rz_str | refine z_eq ?_ | apply rz_sl)); all_goals trace_state)
theorem a_at (l : List Ent) (p : Str) (hl : l.length ≤ 140737488355328) (hs : rising entLt l = true) :
    AFn C.P 39 [entAV l, .v (str p)] (.tup [.v (.int .i64 (posE l p)), .v (.bool (hitE l p))]) := by
  have hse := a_searchE l p hl hs
  refine acall_intro Tryz.func39 rfl _ Tryz.ntmps39 (Nat.le_of_ble_eq_true rfl) _ Tryz.results39 0 rfl rfl ?_
  repeat' (first | refine walk ?_ | (first | (apply to_call Tryz.func54 rfl rfl; intro hIsFn; refine o_callp hIsFn (hse ..) ?_)) | ((first | (apply awp_cond; rfl)); all_goals (intro hc; have hp := hc; first | (simp at hp; done) | ((try simp at hp); first | (exfalso; omega) | skip))) | (apply awp_cond_any; rfl))
  (refine f_pure (rs := [.tmp 4, .tmp 5]) ?_; (repeat' (first | exact rzl_nil | apply rzl_cons | exact rz_pure rfl | exact rz_ex | exact z_os | apply rz_agg | apply rz_tup | apply rz_clo | apply rz_int | apply rz_bool | apply rz_str | refine z_eq ?_ | apply rz_sl)); all_goals trace_state)
end Go.Proofs.YtkkfilkmkdnboaaGreatDoor

/- Trees in the abstract layer, 2: the parent; checkTree, check, Check. -/
set_option linter.unusedSimpArgs false
set_option linter.unnecessarySimpa false
set_option maxHeartbeats 1000000
namespace Go.Proofs.YtkkfilkmkdnboaaGreatDoor
open Go.Ab Go.RowKit
set_option maxRecDepth 10000
attribute [local irreducible] Awp Ops OpsX Wanted Red ExOk Go.Ab.Fin ACall Rz RzL RzRows Enters ResOk RenV RenVL ArgV ArgVL

def parEnt (l : List Ent) (p : Str) : Ent := if parentOf p = [] then ⟨[], true, [], 0⟩ else match l.find? (atP (parentOf p)) with | some x => x | none => ⟨[], false, [], 0⟩
def parOk (l : List Ent) (p : Str) : Bool := decide (parentOf p = []) || hitE l (parentOf p)
theorem parEnt_err (l : List Ent) (p : Str) : folderErr l (parentOf p) = if parOk l p = true then (if (parEnt l p).fold = true then 0 else 4) else 5 := by
  unfold folderErr parOk parEnt
  by_cases h : parentOf p = []
  · simp [h]
  · cases hh : hitE l (parentOf p) with
    | true =>
      obtain ⟨x, hx, hk⟩ := List.any_eq_true.1 hh
      cases hf : l.find? (atP (parentOf p)) with
      | none => rw [List.find?_eq_none] at hf; exact absurd hk (hf x hx)
      | some y => simp [h]
    | false => simp [h, (hitE_none hh).1]
theorem a_parentT (l : List Ent) (p : Str) (hl : l.length ≤ 140737488355328) (hs : rising entLt l = true) (hp : p.length ≤ 140737488355328) :
    AFn C.P 59 [entAV l, .v (str p)] (.tup [.agg (parEnt l p).row, .v (.bool (parOk l p))]) := by
  have hsp := a_split p (by omega)
  have hat := a_at l (parentOf p) hl hs
  by_cases h : parentOf p = []
  · have e1 : parEnt l p = ⟨[], true, [], 0⟩ := by simp [parEnt, h]
    have e2 : parOk l p = true := by simp [parOk, h]
    rw [h] at hsp hat
    rw [e1, e2]
    refine acall_intro Tryz.func59 rfl _ Tryz.ntmps59 (Nat.le_of_ble_eq_true rfl) _ Tryz.results59 0 rfl rfl ?_
    repeat' (first | refine walk ?_ | (first | (apply to_call Tryz.func61 rfl rfl; intro hIsFn; refine o_callp hIsFn (hsp ..) ?_) | (apply to_call Tryz.func39 rfl rfl; intro hIsFn; refine o_callp hIsFn (hat ..) ?_)) | ((first | (apply awp_cond; rfl)); all_goals (intro hc; have hp := hc; first | (simp at hp; done) | ((try simp at hp); first | (exfalso; omega) | skip))) | (apply awp_cond_any; rfl))
    all_goals try (exfalso; simp_all; done)
    (refine f_pure (rs := [.cell 4 36, .tmp 5]) ?_; (repeat' (first | exact rzl_nil | apply rzl_cons | exact rz_pure rfl | exact rz_ex | exact z_os | apply rz_agg | apply rz_tup | apply rz_clo | apply rz_int | apply rz_bool | apply rz_str | refine z_eq ?_ | apply rz_sl)); all_goals trace_state)
  · cases hh : hitE l (parentOf p) with
    | true =>
      obtain ⟨hk, hpe, hfi, -⟩ := hitE_at hs hh
      have e1 : parEnt l p = l[posE l (parentOf p)] := by simp [parEnt, h, hfi]
      have e2 : parOk l p = true := by simp [parOk, hh]
      rw [hh] at hat
      rw [e1, e2]
      generalize posE l (parentOf p) = k at *
      have hr := getRow (f := Ent.row) hk
      refine acall_intro Tryz.func59 rfl _ Tryz.ntmps59 (Nat.le_of_ble_eq_true rfl) _ Tryz.results59 0 rfl rfl ?_
      repeat' (first | refine walk ?_ | (first | (apply to_call Tryz.func61 rfl rfl; intro hIsFn; refine o_callp hIsFn (hsp ..) ?_) | (apply to_call Tryz.func39 rfl rfl; intro hIsFn; refine o_callp hIsFn (hat ..) ?_)) | ((first | (apply awp_cond; rfl)); all_goals (intro hc; have hp := hc; first | (simp at hp; done) | ((try simp at hp); first | (exfalso; omega) | skip))) | (apply awp_cond_any; rfl))
      all_goals try (exfalso; first | exact h (by assumption) | (simp_all; done))
      (refine f_pure (rs := [.cell 4 36, .tmp 5]) ?_; (repeat' (first | exact rzl_nil | apply rzl_cons | exact rz_pure rfl | exact rz_ex | exact z_os | apply rz_agg | apply rz_tup | apply rz_clo | apply rz_int | apply rz_bool | apply rz_str | refine z_eq ?_ | apply rz_sl)); all_goals trace_state)
    | false =>
      have e1 : parEnt l p = ⟨[], false, [], 0⟩ := by simp [parEnt, h, (hitE_none hh).1]
      have e2 : parOk l p = false := by simp [parOk, hh, h]
      rw [hh] at hat
      rw [e1, e2]
      refine acall_intro Tryz.func59 rfl _ Tryz.ntmps59 (Nat.le_of_ble_eq_true rfl) _ Tryz.results59 0 rfl rfl ?_
      repeat' (first | refine walk ?_ | (first | (apply to_call Tryz.func61 rfl rfl; intro hIsFn; refine o_callp hIsFn (hsp ..) ?_) | (apply to_call Tryz.func39 rfl rfl; intro hIsFn; refine o_callp hIsFn (hat ..) ?_)) | ((first | (apply awp_cond; rfl)); all_goals (intro hc; have hp := hc; first | (simp at hp; done) | ((try simp at hp); first | (exfalso; omega) | skip))) | (apply awp_cond_any; rfl))
      all_goals try (exfalso; first | exact h (by assumption) | (simp_all; done))
      (refine f_pure (rs := [.cell 4 36, .tmp 5]) ?_; (repeat' (first | exact rzl_nil | apply rzl_cons | exact rz_pure rfl | exact rz_ex | exact z_os | apply rz_agg | apply rz_tup | apply rz_clo | apply rz_int | apply rz_bool | apply rz_str | refine z_eq ?_ | apply rz_sl)); all_goals trace_state)
end Go.Proofs.YtkkfilkmkdnboaaGreatDoor

/- Trees in the abstract layer, 3: checkTree, check, Check, Find. -/
set_option linter.unusedSimpArgs false
set_option linter.unnecessarySimpa false
set_option maxHeartbeats 1000000
namespace Go.Proofs.YtkkfilkmkdnboaaGreatDoor
open Go.Ab Go.RowKit
set_option maxRecDepth 10000
attribute [local irreducible] Awp Ops OpsX Wanted Red ExOk Go.Ab.Fin ACall Rz RzL RzRows Enters ResOk RenV RenVL ArgV ArgVL

theorem leq_ent (a b : Ent) : (Op.bytesLess b.path a.path || decide (b.path = a.path)) = !entLt a b := by
  unfold entLt
  rcases bl_tri a.path b.path with ⟨h1, h2, h3⟩ | ⟨h1, h2, h3⟩ | ⟨h1, h2, h3⟩
  · have h4 : ¬ b.path = a.path := fun e => h3 e.symm
    simp [h1, h2, h4]
  · simp [h1, bl_irr]
  · simp [h1, h2]
theorem treeErr_ent {t : List Ent} (h60 : ¬ 60 < t.length) {k : Nat} (hk : k < t.length) (hs : ∀ g, g ∈ t.take k → entErr g = 0) (h0 : entErr t[k] ≠ 0) : entErr t[k] = treeErr t := by
  have h1 := firstErr_at hk hs h0
  have hz : ¬ firstErr entErr t = 0 := by rw [h1]; exact h0
  simp only [treeErr, h60, hz, if_false]
  rw [h1]
theorem a_checkTree (l : List Ent) (hl : EBig l) : AFn C.P 49 [entAV l] (.v (.int .i64 (treeErr l))) := by
  have hll := hl.len
  refine acall_intro Tryz.func49 rfl _ Tryz.ntmps49 (Nat.le_of_ble_eq_true rfl) _ Tryz.results49 0 rfl rfl ?_
  repeat' (first | refine walk ?_ | fail | ((first | (apply awp_cond; rfl)); all_goals (intro hc; have hp := hc; first | (simp at hp; done) | ((try simp at hp); first | (exfalso; omega) | skip))) | (apply awp_cond_any; rfl))
  · apply fin_int
    rfl
    have h60 : 60 < l.length := by omega
    simp [treeErr, h60]
  have h60 : ¬ 60 < l.length := by omega
  (refine Awp.red (red_pure (ts := [(0, entAV l), (15, entAV l), (16, .v (.int .i64 l.length)), (17, .v (.int .i64 ((0 : Nat) : Int)))]) ?_) ?_; ((repeat (first | exact tsok_nil | refine p_pure ?_ | refine p_eq ?_ ?_))))
  all_goals try (rw [List.length_map]; done)
  refine awp_loop (fun n σ => ∃ i : Nat, i ≤ l.length ∧ n = l.length - i ∧ (∀ g, g ∈ l.take i → entErr g = 0) ∧ σ = ⟨[(0, entAV l), (15, entAV l), (16, .v (.int .i64 l.length)), (17, .v (.int .i64 (i : Int)))], [], C.nh⟩) l.length ⟨0, Nat.zero_le _, rfl, (by simp), rfl⟩ ?_
  rintro n σ ⟨i, hi, rfl, hsofar, rfl⟩
  by_cases hlt : i < l.length
  · have hr := getRow (f := Ent.row) hlt
    have hsm := hl.each l[i] (List.getElem_mem _)
    have hce := a_checkEntry l[i] hsm
    repeat' (first | refine walk ?_ | (first | (apply to_call Tryz.func58 rfl rfl; intro hIsFn; refine o_callf hIsFn (hce ..) ?_; skip)) | ((first | (apply awp_cond; rfl)); all_goals (intro hc; have hp := hc; first | (simp at hp; done) | ((try simp at hp); first | (exfalso; omega) | skip))) | (apply awp_cond_any; rfl))
    all_goals try (exfalso; omega)
    · apply fin_int
      rfl
      exact treeErr_ent h60 hlt hsofar (by assumption)
    · refine ⟨l.length - (i + 1), _, by omega, red_pure (ts := [(0, entAV l), (15, entAV l), (16, .v (.int .i64 l.length)), (17, .v (.int .i64 ((i + 1 : Nat) : Int)))]) ?_, i + 1, by omega, rfl, mem_take_succ hlt hsofar (by assumption), rfl⟩; ((repeat (first | exact tsok_nil | refine p_pure ?_ | refine p_eq ?_ ?_)))
  obtain rfl : i = l.length := by omega
  have hz : firstErr entErr l = 0 := firstErr_zero.2 (fun s hs => hsofar s (by rw [List.take_length]; exact hs))
  clear hsofar
  repeat' (first | refine walk ?_ | fail | ((first | (apply awp_cond; rfl)); all_goals (intro hc; have hp := hc; first | (simp at hp; done) | ((try simp at hp); first | (exfalso; omega) | skip))) | (apply awp_cond_any; rfl))
  all_goals try (exfalso; omega)
  (refine Awp.red (red_pure (ts := [(0, entAV l), (6, .v (.int .i64 ((0 + 1 : Nat) : Int)))]) ?_) ?_; ((repeat (first | exact tsok_nil | refine p_pure ?_ | refine p_eq ?_ ?_))))
  refine awp_loop (fun n σ => ∃ i : Nat, i ≤ (l.drop 1).length ∧ n = (l.drop 1).length - i ∧ (∀ (k : Nat) (h : k + 1 < l.length), k < i → entLt (l[k]'(by omega)) l[k + 1] = true) ∧ σ = ⟨[(0, entAV l), (6, .v (.int .i64 ((i + 1 : Nat) : Int)))], [], C.nh⟩) (l.drop 1).length ⟨0, Nat.zero_le _, rfl, (fun k h hk => absurd hk (Nat.not_lt_zero _)), rfl⟩ ?_
  have hdl : (l.drop 1).length = l.length - 1 := by simp
  rintro n σ ⟨i, hi, rfl, hsofar, rfl⟩
  by_cases hlt : i + 1 < l.length
  · have hr := getRow (f := Ent.row) hlt
    have hr' := getRow (f := Ent.row) (l := l) (i := i) (by omega)
    have hle := leq_ent l[i] l[i + 1]
    repeat' (first | refine walk ?_ | fail | ((first | (apply awp_cond; rfl)); all_goals (intro hc; have hp := hc; first | (simp at hp; done) | ((try simp at hp); first | (exfalso; omega) | skip))) | (apply awp_cond_any; rfl))
    all_goals try (exfalso; omega)
    · have hrf : ¬ rising entLt l = true := fun h => by
        have := rising_iff.1 h i hlt
        simp_all
      apply fin_int
      rfl
      simp [treeErr, h60, hz, hrf]
    · have hok : entLt l[i] l[i + 1] = true := (by simp_all)
      refine ⟨(l.drop 1).length - (i + 1), _, by omega, red_pure (ts := [(0, entAV l), (6, .v (.int .i64 ((i + 1 + 1 : Nat) : Int)))]) ?_, i + 1, by omega, rfl, (fun k h hk => by
        by_cases e : k = i
        · subst e; exact hok
        · exact hsofar k h (by omega)), rfl⟩; ((repeat (first | exact tsok_nil | refine p_pure ?_ | refine p_eq ?_ ?_)))
  have hrise : rising entLt l = true := rising_iff.2 fun k h => hsofar k h (by simp at hi; omega)
  clear hsofar
  repeat' (first | refine walk ?_ | fail | ((first | (apply awp_cond; rfl)); all_goals (intro hc; have hp := hc; first | (simp at hp; done) | ((try simp at hp); first | (exfalso; omega) | skip))) | (apply awp_cond_any; rfl))
  all_goals try (exfalso; omega)
  (refine Awp.red (red_pure (ts := [(0, entAV l), (7, .v (.int .i64 (if (l.take 0).any (fun x => decide (¬ parErr l x = 0)) = true then 4 else 0))), (45, entAV l), (46, .v (.int .i64 l.length)), (47, .v (.int .i64 ((0 : Nat) : Int)))]) ?_) ?_; ((repeat (first | exact tsok_nil | refine p_pure ?_ | refine p_eq ?_ ?_))))
  all_goals try (rw [List.length_map]; done)
  refine awp_loop (fun n σ => ∃ i : Nat, i ≤ l.length ∧ n = l.length - i ∧ (∀ g, g ∈ l.take i → ¬ parErr l g = 5) ∧ σ = ⟨[(0, entAV l), (7, .v (.int .i64 (if (l.take i).any (fun x => decide (¬ parErr l x = 0)) = true then 4 else 0))), (45, entAV l), (46, .v (.int .i64 l.length)), (47, .v (.int .i64 (i : Int)))], [], C.nh⟩) l.length ⟨0, Nat.zero_le _, rfl, (by simp), rfl⟩ ?_
  rintro n σ ⟨i, hi, rfl, hsofar, rfl⟩
  by_cases hlt : i < l.length
  · have hr := getRow (f := Ent.row) hlt
    have hsm := hl.each l[i] (List.getElem_mem _)
    have hpa := a_parentT l l[i].path hl.len hrise (by have := hsm.1; omega)
    have hpe : parErr l l[i] = _ := parEnt_err l l[i].path
    have htk := List.take_succ_eq_append_getElem hlt
    generalize parOk l l[i].path = ok at hpa hpe
    generalize parEnt l l[i].path = pe at hpa hpe
    repeat' (first | refine walk ?_ | (first | (apply to_call Tryz.func59 rfl rfl; intro hIsFn; refine o_callp hIsFn (hpa ..) ?_)) | ((first | (apply awp_cond; rfl)); all_goals (intro hc; have hp := hc; first | (simp at hp; done) | ((try simp at hp); first | (exfalso; omega) | skip))) | (apply awp_cond_any; rfl))
    all_goals try (exfalso; omega)
    · have h5 : parErr l l[i] = 5 := (by rw [hpe]; simp_all)
      have hany : l.any (fun x => decide (parErr l x = 5)) = true := List.any_eq_true.2 ⟨l[i], List.getElem_mem _, by simp [h5]⟩
      apply fin_int
      rfl
      simp [treeErr, h60, hz, hrise, hany]
    · have h4 : parErr l l[i] = 4 := (by rw [hpe]; simp_all)
      refine ⟨l.length - (i + 1), _, by omega, red_pure (ts := [(0, entAV l), (7, .v (.int .i64 (if (l.take (i + 1)).any (fun x => decide (¬ parErr l x = 0)) = true then 4 else 0))), (45, entAV l), (46, .v (.int .i64 l.length)), (47, .v (.int .i64 ((i + 1 : Nat) : Int)))]) ?_, i + 1, by omega, rfl, mem_take_succ hlt hsofar (by rw [h4]; decide), rfl⟩; ((repeat (first | exact tsok_nil | refine p_pure ?_ | refine p_eq ?_ ?_)); all_goals (rw [htk, List.any_append]; simp [h4]))
    · have h4 : parErr l l[i] = 0 := (by rw [hpe]; simp_all)
      refine ⟨l.length - (i + 1), _, by omega, red_pure (ts := [(0, entAV l), (7, .v (.int .i64 (if (l.take (i + 1)).any (fun x => decide (¬ parErr l x = 0)) = true then 4 else 0))), (45, entAV l), (46, .v (.int .i64 l.length)), (47, .v (.int .i64 ((i + 1 : Nat) : Int)))]) ?_, i + 1, by omega, rfl, mem_take_succ hlt hsofar (by rw [h4]; decide), rfl⟩; ((repeat (first | exact tsok_nil | refine p_pure ?_ | refine p_eq ?_ ?_)); all_goals (rw [htk, List.any_append]; simp [h4]))
  obtain rfl : i = l.length := by omega
  rw [List.take_length] at *
  have hno : ¬ l.any (fun x => decide (parErr l x = 5)) = true := fun h => by
    obtain ⟨x, hx, hk⟩ := List.any_eq_true.1 h
    exact hsofar x hx (by simpa using hk)
  have hE : treeErr l = if l.any (fun x => decide (¬ parErr l x = 0)) = true then 4 else 0 := by
    unfold treeErr
    rw [if_neg h60, if_pos hz, if_pos hrise, if_neg hno]
  repeat' (first | refine walk ?_ | fail | ((first | (apply awp_cond; rfl)); all_goals (intro hc; have hp := hc; first | (simp at hp; done) | ((try simp at hp); first | (exfalso; omega) | skip))) | (apply awp_cond_any; rfl))
  all_goals try (exfalso; omega)
  apply fin_int
  rfl
  exact hE.symm
end Go.Proofs.YtkkfilkmkdnboaaGreatDoor

/- Trees in the abstract layer, 4: check, Check, Find; the reference's EntryAt, IsFolder, CheckTree. -/
set_option linter.unusedSimpArgs false
set_option linter.unnecessarySimpa false
set_option maxHeartbeats 1000000
namespace Go.Proofs.YtkkfilkmkdnboaaGreatDoor
open Go.Ab Go.RowKit
set_option maxRecDepth 10000
attribute [local irreducible] Awp Ops OpsX Wanted Red ExOk Go.Ab.Fin ACall Rz RzL RzRows Enters ResOk RenV RenVL ArgV ArgVL

def treeRow (t : List Ent) : List AV := [entAV t]
theorem a_checkTs (ts : List (List Ent)) (hn : ts.length ≤ 1000000) (hs : ∀ t, t ∈ ts → EBig t) : AFn C.P 31 [.sl false (ts.map treeRow)] (.v (.int .i64 (firstErr treeErr ts))) := by
  refine acall_intro Tryz.func31 rfl _ Tryz.ntmps31 (Nat.le_of_ble_eq_true rfl) _ Tryz.results31 0 rfl rfl ?_
  repeat' (first | refine walk ?_ | fail | ((first | (apply awp_cond; rfl)); all_goals (intro hc; have hp := hc; first | (simp at hp; done) | ((try simp at hp); first | (exfalso; omega) | skip))) | (apply awp_cond_any; rfl))
  (refine Awp.red (red_pure (ts := [(6, .sl false (ts.map treeRow)), (7, .v (.int .i64 ts.length)), (8, .v (.int .i64 ((0 : Nat) : Int)))]) ?_) ?_; ((repeat (first | exact tsok_nil | refine p_pure ?_ | refine p_eq ?_ ?_))))
  all_goals try (rw [List.length_map]; done)
  refine awp_loop (fun n σ => ∃ i : Nat, i ≤ ts.length ∧ n = ts.length - i ∧ (∀ t, t ∈ ts.take i → treeErr t = 0) ∧ σ = ⟨[(6, .sl false (ts.map treeRow)), (7, .v (.int .i64 ts.length)), (8, .v (.int .i64 (i : Int)))], [], C.nh⟩) ts.length ⟨0, Nat.zero_le _, rfl, (by simp), rfl⟩ ?_
  rintro n σ ⟨i, hi, rfl, hsofar, rfl⟩
  by_cases hlt : i < ts.length
  · have hr := getRow (f := treeRow) hlt
    have hct := a_checkTree ts[i] (hs _ (List.getElem_mem _))
    repeat' (first | refine walk ?_ | (first | (apply to_call Tryz.func49 rfl rfl; intro hIsFn; refine o_callp hIsFn (hct ..) ?_)) | ((first | (apply awp_cond; rfl)); all_goals (intro hc; have hp := hc; first | (simp at hp; done) | ((try simp at hp); first | (exfalso; omega) | skip))) | (apply awp_cond_any; rfl))
    all_goals try (exfalso; omega)
    · apply fin_int
      rfl
      exact (firstErr_at hlt hsofar (by assumption)).symm
    · refine ⟨ts.length - (i + 1), _, by omega, red_pure (ts := [(6, .sl false (ts.map treeRow)), (7, .v (.int .i64 ts.length)), (8, .v (.int .i64 ((i + 1 : Nat) : Int)))]) ?_, i + 1, by omega, rfl, mem_take_succ hlt hsofar (by assumption), rfl⟩; ((repeat (first | exact tsok_nil | refine p_pure ?_ | refine p_eq ?_ ?_)))
  obtain rfl : i = ts.length := by omega
  have hz : firstErr treeErr ts = 0 := firstErr_zero.2 (fun s hs => hsofar s (by rw [List.take_length]; exact hs))
  clear hsofar
  repeat' (first | refine walk ?_ | fail | ((first | (apply awp_cond; rfl)); all_goals (intro hc; have hp := hc; first | (simp at hp; done) | ((try simp at hp); first | (exfalso; omega) | skip))) | (apply awp_cond_any; rfl))
  all_goals try (exfalso; omega)
  apply fin_int
  rfl
  exact hz.symm
theorem a_checkT (l : List Ent) (hl : EBig l) : AFn C.P 31 [.sl false [[entAV l]]] (.v (.int .i64 (treeErr l))) := by
  have h := a_checkTs [l] (by simp) (by simpa using hl)
  rw [show firstErr treeErr [l] = treeErr l from by simp only [firstErr]; split <;> simp_all] at h
  exact h
theorem a_tcheck (l : List Ent) (hl : EBig l) : AFn C.P 14 [entAV l] (.v (.int .i64 (treeErr l))) := by
  have h := a_checkT l hl
  refine acall_intro Tryz.func14 rfl _ Tryz.ntmps14 (Nat.le_of_ble_eq_true rfl) _ Tryz.results14 0 rfl rfl ?_
  repeat' (first | refine walk ?_ | (first | (refine o_fzl ?_) | (apply to_call Tryz.func31 rfl rfl; intro hIsFn; refine o_callp hIsFn (h ..) ?_)) | ((first | (apply awp_cond; rfl)); all_goals (intro hc; have hp := hc; first | (simp at hp; done) | ((try simp at hp); first | (exfalso; omega) | skip))) | (apply awp_cond_any; rfl))
  all_goals (apply fin_int; rfl; rfl)

theorem a_entryAt (l : List Ent) (p : Str) (hl : l.length ≤ 140737488355328) : AFn C.P 26 [entAV l, .v (str p)] (.v (.int .i64 (idxOf (atP p) l))) := by
  refine acall_intro Tryz.func26 rfl _ Tryz.ntmps26 (Nat.le_of_ble_eq_true rfl) _ Tryz.results26 0 rfl rfl ?_
  repeat' (first | refine walk ?_ | fail | ((first | (apply awp_cond; rfl)); all_goals (intro hc; have hp := hc; first | (simp at hp; done) | ((try simp at hp); first | (exfalso; omega) | skip))) | (apply awp_cond_any; rfl))
  (refine Awp.red (red_pure (ts := [(0, entAV l), (1, .v (str p)), (5, .v (.int .i64 ((0 : Nat) : Int)))]) ?_) ?_; ((repeat (first | exact tsok_nil | refine p_pure ?_ | refine p_eq ?_ ?_))))
  refine awp_loop (fun n σ => ∃ i : Nat, i ≤ l.length ∧ n = l.length - i ∧ (∀ x, x ∈ l.take i → atP p x = false) ∧ σ = ⟨[(0, entAV l), (1, .v (str p)), (5, .v (.int .i64 (i : Int)))], [], C.nh⟩) l.length ⟨0, Nat.zero_le _, rfl, (by simp), rfl⟩ ?_
  rintro n σ ⟨i, hi, rfl, hsofar, rfl⟩
  by_cases hlt : i < l.length
  · have hr := getRow (f := Ent.row) hlt
    repeat' (first | refine walk ?_ | fail | ((first | (apply awp_cond; rfl)); all_goals (intro hc; have hp := hc; first | (simp at hp; done) | ((try simp at hp); first | (exfalso; omega) | skip))) | (apply awp_cond_any; rfl))
    all_goals try (exfalso; omega)
    · apply fin_int
      rfl
      exact (idxOf_at hlt hsofar (by simp_all [atP])).symm
    · refine ⟨l.length - (i + 1), _, by omega, red_pure (ts := [(0, entAV l), (1, .v (str p)), (5, .v (.int .i64 ((i + 1 : Nat) : Int)))]) ?_, i + 1, by omega, rfl, mem_take_succ hlt hsofar (by simp_all [atP]), rfl⟩; ((repeat (first | exact tsok_nil | refine p_pure ?_ | refine p_eq ?_ ?_)))
  obtain rfl : i = l.length := by omega
  repeat' (first | refine walk ?_ | fail | ((first | (apply awp_cond; rfl)); all_goals (intro hc; have hp := hc; first | (simp at hp; done) | ((try simp at hp); first | (exfalso; omega) | skip))) | (apply awp_cond_any; rfl))
  all_goals try (exfalso; omega)
  apply fin_int
  rfl
  rw [idxOf_none fun x hx => hsofar x (by rw [List.take_length]; exact hx)]
theorem a_isFolder (l : List Ent) (p : Str) (hl : l.length ≤ 140737488355328) : AFn C.P 42 [entAV l, .v (str p)] (.v (.int .i64 (folderErr l p))) := by
  have hea := a_entryAt l p hl
  have hE : folderErr l p = if p = [] then 0 else match l.find? (atP p) with | none => 5 | some x => if x.fold = true then 0 else 4 := rfl
  generalize folderErr l p = E at *
  rcases idxOf_find (atP p) l with ⟨h1, h2⟩ | ⟨k, hk, h1, h2⟩
  · rw [h1] at hea
    rw [h2] at hE
    refine acall_intro Tryz.func42 rfl _ Tryz.ntmps42 (Nat.le_of_ble_eq_true rfl) _ Tryz.results42 0 rfl rfl ?_
    repeat' (first | refine walk ?_ | (first | (apply to_call Tryz.func26 rfl rfl; intro hIsFn; refine o_callf hIsFn (hea ..) ?_; skip)) | ((first | (apply awp_cond; rfl)); all_goals (intro hc; have hp := hc; first | (simp at hp; done) | ((try simp at hp); first | (exfalso; omega) | skip))) | (apply awp_cond_any; rfl))
    all_goals try (exfalso; omega)
    all_goals (apply fin_int; rfl; simp_all)
  · rw [h1] at hea
    rw [h2] at hE
    have hr := getRow (f := Ent.row) hk
    refine acall_intro Tryz.func42 rfl _ Tryz.ntmps42 (Nat.le_of_ble_eq_true rfl) _ Tryz.results42 0 rfl rfl ?_
    repeat' (first | refine walk ?_ | (first | (apply to_call Tryz.func26 rfl rfl; intro hIsFn; refine o_callf hIsFn (hea ..) ?_; skip)) | ((first | (apply awp_cond; rfl)); all_goals (intro hc; have hp := hc; first | (simp at hp; done) | ((try simp at hp); first | (exfalso; omega) | skip))) | (apply awp_cond_any; rfl))
    all_goals try (exfalso; omega)
    all_goals (apply fin_int; rfl; simp_all)
end Go.Proofs.YtkkfilkmkdnboaaGreatDoor

/- Trees in the abstract layer, 5: the reference's CheckTree. -/
set_option linter.unusedSimpArgs false
set_option linter.unnecessarySimpa false
set_option maxHeartbeats 1000000
namespace Go.Proofs.YtkkfilkmkdnboaaGreatDoor
open Go.Ab Go.RowKit
set_option maxRecDepth 10000
attribute [local irreducible] Awp Ops OpsX Wanted Red ExOk Go.Ab.Fin ACall Rz RzL RzRows Enters ResOk RenV RenVL ArgV ArgVL

theorem entErr_form {e : Ent} (h : ¬ pathErr e.path = 0) : entErr e = pathErr e.path := by simp [entErr, h]
theorem entErr_rest {e : Ent} (h : pathErr e.path = 0) : entErr e = (if e.fold = true ∧ ¬ e.text = [] then 1 else if 300 < e.text.length then 2 else if isVer e.ver = true then 0 else 3) := by simp [entErr, h]
end Go.Proofs.YtkkfilkmkdnboaaGreatDoor

/- Changes in the abstract layer, 1: their form; may they be made? -/
set_option linter.unusedSimpArgs false
set_option linter.unnecessarySimpa false
set_option linter.unusedVariables false
set_option maxHeartbeats 1000000
namespace Go.Proofs.YtkkfilkmkdnboaaGreatDoor
open Go.Ab Go.RowKit
set_option maxRecDepth 10000
attribute [local irreducible] Awp Ops OpsX Wanted Red ExOk Go.Ab.Fin ACall Rz RzL RzRows Enters ResOk RenV RenVL ArgV ArgVL

def chgRest (c : Chg) : Int := if (¬ c.kind = 3 ∧ ¬ c.to = []) ∨ (¬ c.kind = 2 ∧ ¬ c.text = []) then 1 else if 300 < c.text.length then 2 else if c.base < -1 ∨ 1000000 < c.base then 3 else 0
def chgErr (c : Chg) : Int :=
  if c.kind < 1 ∨ 4 < c.kind then 7
  else if ¬ pathErr c.path = 0 then pathErr c.path
  else if c.kind = 3 ∧ ¬ pathErr c.to = 0 then pathErr c.to
  else chgRest c
end Go.Proofs.YtkkfilkmkdnboaaGreatDoor

/- Changes in the abstract layer, 2: may one be made? -/
set_option linter.unusedSimpArgs false
set_option linter.unnecessarySimpa false
set_option linter.unusedVariables false
set_option maxHeartbeats 1000000
namespace Go.Proofs.YtkkfilkmkdnboaaGreatDoor
open Go.Ab Go.RowKit
set_option maxRecDepth 10000
attribute [local irreducible] Awp Ops OpsX Wanted Red ExOk Go.Ab.Fin ACall Rz RzL RzRows Enters ResOk RenV RenVL ArgV ArgVL

def goalOf (c : Chg) : Str := if c.kind = 3 then c.to else c.path
def newer (c : Chg) (x : Ent) : Bool := decide (c.base < x.ver) && inB x.path c.path
def foldAt (t : List Ent) (p : Str) : Bool := match t.find? (atP p) with | some x => x.fold | none => false
def isErr (t : List Ent) (c : Chg) : Int := if c.kind = 1 then (if hitE t c.path = true then 6 else 0) else if c.kind = 2 then (if foldAt t c.path = true then 4 else 0) else (if hitE t c.path = true then 0 else 5)
def mvErr (t : List Ent) (c : Chg) : Int := if c.kind = 3 then (if inB c.to c.path = true then 3 else if hitE t c.to = true then 6 else 0) else 0
def staleErr (t : List Ent) (c : Chg) : Int := if ¬ c.base = -1 ∧ t.any (newer c) = true then 8 else 0
def mayErr (t : List Ent) (c : Chg) : Int :=
  if ¬ folderErr t (parentOf (goalOf c)) = 0 then folderErr t (parentOf (goalOf c))
  else if ¬ isErr t c = 0 then isErr t c
  else if ¬ mvErr t c = 0 then mvErr t c else staleErr t c
end Go.Proofs.YtkkfilkmkdnboaaGreatDoor

/- Changes in the abstract layer, 3: Clone, Insert, put. -/
set_option linter.unusedSimpArgs false
set_option linter.unnecessarySimpa false
set_option linter.unusedVariables false
set_option maxHeartbeats 1000000
namespace Go.Proofs.YtkkfilkmkdnboaaGreatDoor
open Go.Ab Go.RowKit
set_option maxRecDepth 10000
attribute [local irreducible] Awp Ops OpsX Wanted Red ExOk Go.Ab.Fin ACall Rz RzL RzRows Enters ResOk RenV RenVL ArgV ArgVL

theorem ins_new {α : Type} (R J Z : List α) (x : α) {i a b c d : Nat} (hi : i ≤ R.length) (hJ : J.length = 1 + Z.length) (ha : a = i) (hb : b = i + 1) (hc : c = i + 1) (hd : d = i + 1 + Z.length) :
    ((R.take i ++ J).take a ++ [x] ++ (R.take i ++ J).drop b).take c ++ Z ++ ((R.take i ++ J).take a ++ [x] ++ (R.take i ++ J).drop b).drop d = R.take i ++ ([x] ++ Z) := by
  subst ha; subst hb; subst hc; subst hd
  have h1 : (R.take a ++ J).take a = R.take a := by rw [List.take_append_of_le_length (by simp; omega), List.take_of_length_le (by simp; omega)]
  have h2 : (R.take a ++ [x] ++ (R.take a ++ J).drop (a + 1)).take (a + 1) = R.take a ++ [x] := by
    rw [List.take_append_of_le_length (by simp; omega), List.take_of_length_le (by simp; omega)]
  have h3 : (R.take a ++ [x] ++ (R.take a ++ J).drop (a + 1)).drop (a + 1 + Z.length) = [] := List.drop_of_length_le (by simp; omega)
  rw [h1, h2, h3]; simp
theorem ins_in {α : Type} (R Z : List α) (x : α) {i a b c d m : Nat} (hi : i + 1 ≤ R.length) (ha : a = i + 1) (hc : c = i) (hd : d = i + 1) (hm : m = i + 1 + Z.length) :
    ((R.take a ++ Z ++ R.drop b).take c ++ [x] ++ (R.take a ++ Z ++ R.drop b).drop d).take m = R.take i ++ ([x] ++ Z) := by
  subst ha; subst hc; subst hd; subst hm
  have h1 : (R.take (c + 1) ++ Z ++ R.drop b).take c = R.take c := by
    rw [List.append_assoc, List.take_append_of_le_length (by simp; omega), List.take_take, Nat.min_eq_left (by omega)]
  have h2 : (R.take (c + 1) ++ Z ++ R.drop b).drop (c + 1) = Z ++ R.drop b := by
    rw [List.append_assoc, List.drop_append_of_le_length (by simp; omega), List.drop_of_length_le (by simp; omega), List.nil_append]
  rw [h1, h2, ← List.append_assoc, List.take_append_of_le_length (by simp; omega), List.take_of_length_le (by simp; omega), List.append_assoc]
/-- An entry in the place of what is there. -/
def putT (t : List Ent) (x : Ent) : List Ent := if hitE t x.path = true then t.take (posE t x.path) ++ ([x] ++ t.drop (posE t x.path + 1)) else t.take (posE t x.path) ++ ([x] ++ t.drop (posE t x.path))
end Go.Proofs.YtkkfilkmkdnboaaGreatDoor

/- Changes in the abstract layer, 4: DeleteFunc, without. -/
set_option linter.unusedSimpArgs false
set_option linter.unnecessarySimpa false
set_option linter.unusedVariables false
set_option maxHeartbeats 1000000
namespace Go.Proofs.YtkkfilkmkdnboaaGreatDoor
open Go.Ab Go.RowKit
set_option maxRecDepth 10000
attribute [local irreducible] Awp Ops OpsX Wanted Red ExOk Go.Ab.Fin ACall Rz RzL RzRows Enters ResOk RenV RenVL ArgV ArgVL

def keepE (p : Ent → Bool) (t : List Ent) : List Ent := t.filter fun x => !p x
theorem keepE_succ {p : Ent → Bool} {t : List Ent} {j : Nat} (h : j < t.length) : keepE p (t.take (j + 1)) = if p t[j] = true then keepE p (t.take j) else keepE p (t.take j) ++ [t[j]] := by
  unfold keepE
  rw [List.take_succ_eq_append_getElem h, List.filter_append]
  cases hs : p t[j] <;> simp [hs]
theorem keepE_len (p : Ent → Bool) (t : List Ent) (j : Nat) (hj : j ≤ t.length) : (keepE p (t.take j)).length ≤ j := by
  have h1 : (keepE p (t.take j)).length ≤ (t.take j).length := List.length_filter_le ..
  simp at h1; omega
def inP (p : Str) (x : Ent) : Bool := inB x.path p
end Go.Proofs.YtkkfilkmkdnboaaGreatDoor

/- Changes in the abstract layer, 5: done (all kinds but moves). -/
set_option linter.unusedSimpArgs false
set_option linter.unnecessarySimpa false
set_option linter.unusedVariables false
set_option maxHeartbeats 1000000
namespace Go.Proofs.YtkkfilkmkdnboaaGreatDoor
open Go.Ab Go.RowKit
set_option maxRecDepth 10000
attribute [local irreducible] Awp Ops OpsX Wanted Red ExOk Go.Ab.Fin ACall Rz RzL RzRows Enters ResOk RenV RenVL ArgV ArgVL

def moveTo (c : Chg) (v : Int) (x : Ent) : Ent := ⟨c.to ++ x.path.drop c.path.length, x.fold, x.text, if x.path = c.path then v else x.ver⟩
def goesOf (t : List Ent) (c : Chg) (v : Int) : List Ent := (t.filter (inP c.path)).map (moveTo c v)
def doneL (t : List Ent) (c : Chg) (v : Int) : List Ent :=
  if c.kind = 1 then putT t ⟨c.path, true, [], v⟩
  else if c.kind = 2 then putT t ⟨c.path, false, c.text, v⟩
  else if c.kind = 4 then keepE (inP c.path) t
  else (goesOf t c v).foldl putT (keepE (inP c.path) t)
def moveBad (t : List Ent) (c : Chg) : Bool := decide (c.kind = 3) && (t.filter (inP c.path)).any fun x => tooGreat (c.to ++ x.path.drop c.path.length)
def doneE (t : List Ent) (c : Chg) (v : Int) : Int := if moveBad t c = true then 2 else if 60 < (doneL t c v).length then 2 else 0
def resAV (e : Int) (n : Nat) : AV := if e = 0 then .tup [.os 1 0 n, .v (.int .i64 0)] else .tup [.sl true [], .v (.int .i64 e)]

end Go.Proofs.YtkkfilkmkdnboaaGreatDoor

/- Trees, plain, 2: what put makes; what is right. -/
set_option linter.unusedSimpArgs false
set_option linter.unnecessarySimpa false
set_option linter.unusedVariables false
namespace Go.Proofs.YtkkfilkmkdnboaaGreatDoor
open Go.Op

theorem bl_asym {a b : Str} (h : bytesLess a b = true) : bytesLess b a = false := by
  cases e : bytesLess b a
  · rfl
  · have := bl_trans h e
    rw [bl_irr] at this; cases this
theorem bl_ne {a b : Str} (h : bytesLess a b = true) : ¬ a = b := fun e => by rw [e, bl_irr] at h; cases h
theorem bl_tot {a b : Str} (h1 : bytesLess a b = false) (h2 : ¬ a = b) : bytesLess b a = true := by
  rcases bl_tri a b with ⟨h, _, _⟩ | ⟨h, _, _⟩ | ⟨h, _, _⟩
  · rw [h] at h1; cases h1
  · exact absurd h h2
  · exact h
/-- Entries that are right, parted at a place. -/
theorem splitE (p : Str) : ∀ {t : List Ent}, t.Pairwise (fun a b => bytesLess a.path b.path = true) → ∃ A M Z, t = A ++ (M ++ Z) ∧ posE t p = A.length ∧ (∀ a, a ∈ A → bytesLess a.path p = true) ∧ (∀ z, z ∈ Z → bytesLess p z.path = true) ∧
    ((hitE t p = true ∧ ∃ x, M = [x] ∧ x.path = p) ∨ (hitE t p = false ∧ M = []))
  | [], _ => ⟨[], [], [], rfl, rfl, nofun, nofun, .inr ⟨rfl, rfl⟩⟩
  | x :: l, h => by
    obtain ⟨h1, h2⟩ := List.pairwise_cons.1 h
    by_cases hx : bytesLess x.path p = true
    · obtain ⟨A, M, Z, rfl, hp, hA, hZ, hM⟩ := splitE p h2
      have hp' : posE (x :: (A ++ (M ++ Z))) p = A.length + 1 := by
        simp only [posE, List.takeWhile_cons, hx, if_true, List.length_cons] at hp ⊢; omega
      have hh : hitE (x :: (A ++ (M ++ Z))) p = hitE (A ++ (M ++ Z)) p := by
        simp [hitE, atP, bl_ne hx]
      refine ⟨x :: A, M, Z, rfl, hp', fun a ha => ?_, hZ, by rw [hh]; exact hM⟩
      rcases List.mem_cons.1 ha with rfl | ha
      · exact hx
      · exact hA a ha
    · have hx : bytesLess x.path p = false := by simpa using hx
      have hp : posE (x :: l) p = 0 := by simp [posE, List.takeWhile_cons, hx]
      by_cases e : x.path = p
      · subst e
        exact ⟨[], [x], l, rfl, hp, nofun, fun z hz => h1 z hz, .inl ⟨by simp [hitE, atP], x, rfl, rfl⟩⟩
      · have hg := bl_tot hx e
        have hall : ∀ z, z ∈ x :: l → bytesLess p z.path = true := fun z hz => by
          rcases List.mem_cons.1 hz with rfl | hz
          · exact hg
          · exact bl_trans hg (h1 z hz)
        refine ⟨[], [], x :: l, rfl, hp, nofun, hall, .inr ⟨List.any_eq_false.2 fun z hz => ?_, rfl⟩⟩
        have := bl_ne (hall z hz)
        simp only [atP, decide_eq_true_eq]
        exact fun e => this e.symm
theorem putT_split {t A M Z : List Ent} {x : Ent} (h : t = A ++ (M ++ Z)) (hp : posE t x.path = A.length) (hM : (hitE t x.path = true ∧ ∃ y, M = [y] ∧ y.path = x.path) ∨ (hitE t x.path = false ∧ M = [])) : putT t x = A ++ ([x] ++ Z) := by
  unfold putT
  rw [hp]
  have h1 : t.take A.length = A := by rw [h]; simp
  rw [h1]
  rcases hM with ⟨hh, y, rfl, _⟩ | ⟨hh, rfl⟩
  · simp only [hh, if_true]; rw [h]; simp
  · simp only [hh, Bool.false_eq_true, if_false]; rw [h]; simp
theorem putT_len (t : List Ent) (x : Ent) : (putT t x).length ≤ t.length + 1 := by
  unfold putT; split <;> simp <;> omega
theorem putT_rising {t : List Ent} {x : Ent} (hs : rising entLt t = true) : rising entLt (putT t x) = true := by
  have hl := rising_pairE.1 hs
  obtain ⟨A, M, Z, h, hp, hA, hZ, hM⟩ := splitE x.path hl
  rw [putT_split h hp hM]
  refine rising_pairE.2 ?_
  have hsub : (A ++ Z).Sublist t := by
    rw [h]; exact List.Sublist.append_left (List.sublist_append_right _ _) _
  obtain ⟨pA, pZ, pAZ⟩ := List.pairwise_append.1 (hl.sublist hsub)
  refine List.pairwise_append.2 ⟨pA, List.pairwise_cons.2 ⟨fun z hz => hZ z hz, pZ⟩, fun a ha b hb => ?_⟩
  rcases List.mem_cons.1 hb with rfl | hb
  · exact hA a ha
  · exact pAZ a ha b hb
theorem keepE_rising {p : Ent → Bool} {t : List Ent} (hs : rising entLt t = true) : rising entLt (keepE p t) = true := rising_pairE.2 ((rising_pairE.1 hs).sublist List.filter_sublist)
theorem putAll_rising : ∀ {l t : List Ent}, rising entLt t = true → rising entLt (l.foldl putT t) = true
  | [], _, h => h
  | x :: l, t, h => putAll_rising (l := l) (putT_rising h)
theorem putAll_len : ∀ (l t : List Ent), (l.foldl putT t).length ≤ t.length + l.length
  | [], _ => by simp
  | x :: l, t => by
    have h1 := putAll_len l (putT t x)
    have h2 := putT_len t x
    simp only [List.foldl_cons, List.length_cons]; omega
theorem putAll_succ {l t : List Ent} {i : Nat} (h : i < l.length) : (l.take (i + 1)).foldl putT t = putT ((l.take i).foldl putT t) l[i] := by
  rw [List.take_succ_eq_append_getElem h, List.foldl_append]; rfl
theorem pathErr_small {p : Str} (h : pathErr p = 0) : p.length ≤ 80 := by
  have : tooGreat p = false := by
    unfold pathErr at h
    split at h
    · split at h
      · exact absurd h (by decide)
      · rename_i h2; simpa using h2
    · exact absurd h (by decide)
  simp [tooGreat] at this; omega
theorem moved_right {p f t : Str} (hp : pathErr p = 0) (hf : pathErr f = 0) (ht : pathErr t = 0) (hi : inB p f = true) : movedErr p f t = if tooGreat (t ++ p.drop f.length) = true then 2 else 0 := by
  unfold movedErr
  rw [if_pos (by simp [pathsErr, hp, hf, ht]), if_pos hi]
theorem goes_succ {t : List Ent} {c : Chg} {v : Int} {i : Nat} (h : i < t.length) : goesOf (t.take (i + 1)) c v = if inB t[i].path c.path = true then goesOf (t.take i) c v ++ [moveTo c v t[i]] else goesOf (t.take i) c v := by
  unfold goesOf
  rw [List.take_succ_eq_append_getElem h, List.filter_append]
  cases hs : inB t[i].path c.path <;> simp [hs, inP]
end Go.Proofs.YtkkfilkmkdnboaaGreatDoor

/- Trees, plain, 3: the reference's PutEntry is put, of entries that are right. -/
set_option linter.unusedSimpArgs false
set_option linter.unnecessarySimpa false
set_option linter.unusedVariables false
namespace Go.Proofs.YtkkfilkmkdnboaaGreatDoor
open Go.Op

def putStep (x : Ent) (s : List Ent × Bool) (y : Ent) : List Ent × Bool :=
  ((if s.2 = false ∧ bytesLess y.path x.path = false then s.1 ++ [x] else s.1) ++ (if y.path = x.path then [] else [y]), s.2 || !bytesLess y.path x.path)
def putF (t : List Ent) (x : Ent) : List Ent × Bool := t.foldl (putStep x) ([], false)
def putR (t : List Ent) (x : Ent) : List Ent := if (putF t x).2 = true then (putF t x).1 else (putF t x).1 ++ [x]
theorem putF_succ {t : List Ent} {x : Ent} {i : Nat} (h : i < t.length) : putF (t.take (i + 1)) x = putStep x (putF (t.take i) x) t[i] := by
  unfold putF
  rw [List.take_succ_eq_append_getElem h, List.foldl_append]; rfl
theorem putF_len (t : List Ent) (x : Ent) : (putF t x).1.length ≤ 2 * t.length := by
  have : ∀ (l : List Ent) (s : List Ent × Bool), (l.foldl (putStep x) s).1.length ≤ s.1.length + 2 * l.length := by
    intro l
    induction l with
    | nil => intro s; simp
    | cons y l ih =>
      intro s
      have h1 := ih (putStep x s y)
      have hq : (putStep x s y).1.length ≤ s.1.length + 2 := by
        unfold putStep
        simp only [List.length_append]
        split <;> split <;> simp
      simp only [List.foldl_cons, List.length_cons]
      omega
  have := this t ([], false)
  simpa [putF] using this
theorem putF_low {x : Ent} : ∀ {A : List Ent} {s : List Ent}, (∀ a, a ∈ A → bytesLess a.path x.path = true) → A.foldl (putStep x) (s, false) = (s ++ A, false)
  | [], s, _ => by simp
  | a :: A, s, h => by
    have ha := h a (by simp)
    have hs : putStep x (s, false) a = (s ++ [a], false) := by
      simp [putStep, ha, bl_ne ha]
    rw [List.foldl_cons, hs, putF_low fun y hy => h y (by simp [hy])]
    simp
theorem putF_high {x : Ent} : ∀ {Z : List Ent} {s : List Ent}, (∀ z, z ∈ Z → bytesLess x.path z.path = true) → Z.foldl (putStep x) (s, true) = (s ++ Z, true)
  | [], s, _ => by simp
  | z :: Z, s, h => by
    have hz := h z (by simp)
    have hs : putStep x (s, true) z = (s ++ [z], true) := by
      have : ¬ z.path = x.path := fun e => bl_ne hz e.symm
      simp [putStep, this]
    rw [List.foldl_cons, hs, putF_high fun y hy => h y (by simp [hy])]
    simp
theorem putR_putT {t : List Ent} {x : Ent} (hs : rising entLt t = true) : putR t x = putT t x := by
  obtain ⟨A, M, Z, h, hp, hA, hZ, hM⟩ := splitE x.path (rising_pairE.1 hs)
  rw [putT_split h hp hM]
  have h1 : putF t x = Z.foldl (putStep x) (M.foldl (putStep x) (A, false)) := by
    unfold putF
    rw [h, List.foldl_append, List.foldl_append, putF_low hA, List.nil_append]
  rcases hM with ⟨_, y, rfl, hy⟩ | ⟨_, rfl⟩
  · have h2 : putStep x (A, false) y = (A ++ [x], true) := by simp [putStep, hy, bl_irr]
    rw [List.foldl_cons, List.foldl_nil, h2, putF_high hZ] at h1
    simp [putR, h1]
  · rw [List.foldl_nil] at h1
    cases Z with
    | nil => simp at h1; simp [putR, h1]
    | cons z Z =>
      have hz := hZ z (by simp)
      have h2 : putStep x (A, false) z = (A ++ [x] ++ [z], true) := by
        have h3 : ¬ z.path = x.path := fun e => bl_ne hz e.symm
        simp [putStep, bl_asym hz, h3]
      rw [List.foldl_cons, h2, putF_high fun y hy => hZ y (by simp [hy])] at h1
      simp [putR, h1]
end Go.Proofs.YtkkfilkmkdnboaaGreatDoor

/- Changes in the abstract layer, 6: done, of moves. -/
set_option linter.unusedSimpArgs false
set_option linter.unnecessarySimpa false
set_option linter.unusedVariables false
set_option maxHeartbeats 1000000
namespace Go.Proofs.YtkkfilkmkdnboaaGreatDoor
open Go.Ab Go.RowKit
set_option maxRecDepth 10000
attribute [local irreducible] Awp Ops OpsX Wanted Red ExOk Go.Ab.Fin ACall Rz RzL RzRows Enters ResOk RenV RenVL ArgV ArgVL

def badUpto (t : List Ent) (c : Chg) (i : Nat) : Bool := ((t.take i).filter (inP c.path)).any fun x => tooGreat (c.to ++ x.path.drop c.path.length)
theorem bad_succ {t : List Ent} {c : Chg} {i : Nat} (h : i < t.length) : badUpto t c (i + 1) = (badUpto t c i || (inB t[i].path c.path && tooGreat (c.to ++ t[i].path.drop c.path.length))) := by
  unfold badUpto
  rw [List.take_succ_eq_append_getElem h, List.filter_append, List.any_append]
  cases hs : inB t[i].path c.path <;> simp [hs, inP]
end Go.Proofs.YtkkfilkmkdnboaaGreatDoor

/- Paths, plain, 2: what PathApart and PathBack ask. -/
set_option linter.unusedSimpArgs false
set_option linter.unnecessarySimpa false
namespace Go.Proofs.YtkkfilkmkdnboaaGreatDoor

theorem isName_iff {s : Str} : isName s = true ↔ s ≠ [] ∧ s.length ≤ 20 ∧ s ≠ [46] ∧ s ≠ [46, 46] ∧ s.head? ≠ some 32 ∧ s.getLast? ≠ some 32 ∧ ∀ c, c ∈ s → okB c = true := by
  simp [isName, and_assoc]
theorem isName_free {s : Str} (h : isName s = true) : (47 : UInt8) ∉ s := fun hm => by
  have := (isName_iff.1 h).2.2.2.2.2.2 47 hm
  exact absurd this (by decide)
theorem isName_nil : isName [] = false := by simp [isName]
theorem pathErr_zero {p : Str} : pathErr p = 0 ↔ (∀ n, n ∈ namesOf p → isName n = true) ∧ tooGreat p = false := by
  unfold pathErr
  constructor
  · intro h
    split at h
    · rename_i h1
      split at h
      · exact absurd h (by decide)
      · rename_i h2
        exact ⟨List.all_eq_true.1 h1, by simpa using h2⟩
    · exact absurd h (by decide)
  · rintro ⟨h1, h2⟩
    rw [if_pos (List.all_eq_true.2 h1), h2]; rfl
theorem parent_none {p : Str} (h : (47 : UInt8) ∉ p) : parentOf p = [] ∧ lastOf p = p := by
  rw [parentOf, lastOf, lastIdx_none h]
  exact ⟨rfl, rfl⟩
theorem parent_at {a b : Str} (h : (47 : UInt8) ∉ b) : parentOf (a ++ 47 :: b) = a ∧ lastOf (a ++ 47 :: b) = b := by
  rw [parentOf, lastOf, lastIdx_at h]
  refine ⟨by rw [show (a.length : Int).toNat = a.length from by omega, List.take_left], ?_⟩
  rw [show ((a.length : Int) + 1).toNat = a.length + 1 from by omega, List.drop_append, List.drop_of_length_le (by omega), List.nil_append, show a.length + 1 - a.length = 1 from by omega]; rfl
theorem parent_join {a b : Str} (h : (47 : UInt8) ∉ b) : parentOf (joinOf a b) = a ∧ namesOf (joinOf a b) = (if a = [] then [b] else namesOf a ++ [b]) := by
  unfold joinOf
  split
  · rename_i e; subst e
    exact ⟨(parent_none h).1, namesOf_one h⟩
  · refine ⟨(parent_at h).1, ?_⟩
    rw [namesOf_app, namesOf_one h]
theorem tooGreat_mono {a b : Str} (h : tooGreat b = false) (h1 : (namesOf a).length ≤ (namesOf b).length) (h2 : a.length ≤ b.length) : tooGreat a = false := by
  simp [tooGreat] at h ⊢; omega
/-- A right path: its parent is nothing or right; its name is a name; both joined are it. -/
theorem back_parts {p : Str} (h : pathErr p = 0) : (parentOf p = [] ∨ pathErr (parentOf p) = 0) ∧ isName (lastOf p) = true ∧ joinOf (parentOf p) (lastOf p) = p := by
  obtain ⟨h1, h2⟩ := pathErr_zero.1 h
  rcases split_at (c := 47) p with h3 | ⟨a, b, rfl, hb⟩
  · obtain ⟨e1, e2⟩ := parent_none h3
    rw [e1, e2]
    exact ⟨.inl rfl, h1 p (by rw [namesOf_one h3]; simp), rfl⟩
  · obtain ⟨e1, e2⟩ := parent_at (a := a) hb
    rw [e1, e2]
    have hn : namesOf (a ++ 47 :: b) = namesOf a ++ [b] := by rw [namesOf_app, namesOf_one hb]
    have ha : a ≠ [] := fun e => by
      have := h1 [] (by rw [hn, e]; simp [namesOf])
      rw [isName_nil] at this; exact absurd this (by decide)
    refine ⟨.inr (pathErr_zero.2 ⟨fun n hm => h1 n (by rw [hn]; simp [hm]), tooGreat_mono h2 (by rw [hn]; simp) (by simp)⟩), h1 b (by rw [hn]; simp), ?_⟩
    simp [joinOf, ha]
theorem back_join {p : Str} (h : pathErr p = 0) : joinErr (parentOf p) (lastOf p) = 0 ∧ joinOf (parentOf p) (lastOf p) = p := by
  obtain ⟨h1, h2, h3⟩ := back_parts h
  refine ⟨?_, h3⟩
  unfold joinErr
  rw [if_neg (by rintro ⟨a, b⟩; rcases h1 with h1 | h1 <;> contradiction), if_pos h2, h3, (pathErr_zero.1 h).2]; rfl
theorem pathsErr_zero {p : Str} {l : List Str} : pathsErr (p :: l) = 0 ↔ pathErr p = 0 ∧ pathsErr l = 0 := by
  show (if pathErr p = 0 then pathsErr l else pathErr p) = 0 ↔ _
  split
  · rename_i h; simp [h]
  · rename_i h; simp [h]
theorem back_moved {p f t : Str} (h : movedErr p f t = 0) :
    movedErr (t ++ p.drop f.length) t f = 0 ∧ pathsErr [t ++ p.drop f.length, t] = 0 ∧ inB (t ++ p.drop f.length) t = true ∧ f ++ (t ++ p.drop f.length).drop t.length = p := by
  unfold movedErr at h
  split at h
  case isFalse h' => exact absurd h h'
  rename_i h0
  split at h
  case isFalse => exact absurd h (by decide)
  rename_i hi
  split at h
  case isTrue => exact absurd h (by decide)
  rename_i hg
  obtain ⟨hp, h1⟩ := pathsErr_zero.1 h0
  obtain ⟨hf, h2⟩ := pathsErr_zero.1 h1
  obtain ⟨ht, -⟩ := pathsErr_zero.1 h2
  obtain ⟨np, gp⟩ := pathErr_zero.1 hp
  obtain ⟨nt, -⟩ := pathErr_zero.1 ht
  have hr := moved_ref (t := t) hi
  have hall : ∀ n, n ∈ namesOf t ++ (namesOf p).drop (namesOf f).length → isName n = true := fun n hm => by
    rcases List.mem_append.1 hm with hm | hm
    · exact nt n hm
    · exact np n (List.mem_of_mem_drop hm)
  have hnm : namesOf (t ++ p.drop f.length) = namesOf t ++ (namesOf p).drop (namesOf f).length := by
    rw [← hr]
    exact names_path (by simp [namesOf_ne]) fun n hm => isName_free (hall n hm)
  have hm : pathErr (t ++ p.drop f.length) = 0 := pathErr_zero.2 ⟨by rw [hnm]; exact hall, by simpa using hg⟩
  have hb : inB (t ++ p.drop f.length) t = true := by
    rw [inB_ref, hnm, List.isPrefixOf_iff_prefix]; exact List.prefix_append ..
  have hpre : f ++ p.drop f.length = p := by
    simp only [inB, Bool.or_eq_true, decide_eq_true_eq, List.isPrefixOf_iff_prefix] at hi
    rcases hi with rfl | ⟨s, rfl⟩
    · simp
    · rw [List.append_assoc, List.drop_left]
  have hback : f ++ (t ++ p.drop f.length).drop t.length = p := by rw [List.drop_left]; exact hpre
  refine ⟨?_, ?_, hb, hback⟩
  · unfold movedErr
    rw [if_pos (pathsErr_zero.2 ⟨hm, pathsErr_zero.2 ⟨ht, pathsErr_zero.2 ⟨hf, rfl⟩⟩⟩), if_pos hb, hback, gp]; rfl
  · exact pathsErr_zero.2 ⟨hm, pathsErr_zero.2 ⟨ht, rfl⟩⟩

theorem stem_end (s : Str) : stemOf s ++ endOf s = s := by
  unfold stemOf endOf
  split <;> simp
theorem trimR_pre (s : Str) : trimR s <+: s := by
  have h := List.dropWhile_suffix (l := s.reverse) (· == 32)
  rw [← List.reverse_prefix] at h
  rw [List.reverse_reverse] at h
  exact h
theorem cut_pre (s : Str) (n : Int) : cutOf s n <+: s := by
  have h : stemOf s <+: s := ⟨endOf s, stem_end s⟩
  unfold cutOf
  split
  · exact (trimR_pre _).trans ((List.take_prefix _ _).trans h)
  · exact h
theorem dig_ok : ∀ k, k < 10 → okB (UInt8.ofNat (48 + k)) = true := by decide
theorem dec2_ok {n : Int} (h0 : 1 ≤ n) (h : n ≤ 99) : ∀ c, c ∈ dec2 n → okB c = true := by
  intro c hc
  unfold dec2 at hc
  split at hc
  · rw [List.mem_singleton] at hc; subst hc
    exact dig_ok _ (by omega)
  · simp only [List.mem_cons, List.not_mem_nil, or_false] at hc
    rcases hc with rfl | rfl
    · exact dig_ok _ (by omega)
    · exact dig_ok _ (by omega)
theorem cut_room {s : Str} {n : Int} (h : cutOf s n ≠ []) : ((cutOf s n).length : Int) ≤ roomOf s n := by
  unfold cutOf at h ⊢
  split
  · rename_i hr
    rw [if_pos hr] at h
    have h1 := trimR_len ((stemOf s).take (roomOf s n).toNat)
    rw [List.length_take] at h1
    have h2 : 0 < (trimR ((stemOf s).take (roomOf s n).toNat)).length := List.length_pos_iff.2 h
    omega
  · rename_i hr; omega
theorem aside_name {s : Str} {n : Int} (hs : isName s = true) (h0 : 1 ≤ n) (h1 : n ≤ 99) (hc : cutOf s n ≠ []) : isName (cutOf s n ++ markOf n ++ endOf s) = true := by
  obtain ⟨-, -, -, -, a5, a6, a7⟩ := isName_iff.1 hs
  have hr := cut_room hc
  have hm : 0 < (dec2 n).length := by unfold dec2; split <;> simp
  have hml : (markOf n).length = (dec2 n).length + 3 := by simp [markOf]
  have hpos : 0 < (cutOf s n).length := List.length_pos_iff.2 hc
  have hlen : (cutOf s n ++ markOf n ++ endOf s).length = (cutOf s n).length + (markOf n).length + (endOf s).length := by simp; omega
  unfold roomOf at hr
  obtain ⟨t, ht⟩ := cut_pre s n
  have hse := stem_end s
  refine isName_iff.2 ⟨fun e => ?_, by omega, fun e => ?_, fun e => ?_, ?_, ?_, ?_⟩
  · rw [e] at hlen; simp at hlen; omega
  · rw [e] at hlen; simp at hlen; omega
  · rw [e] at hlen; simp at hlen; omega
  · cases h : cutOf s n with
    | nil => exact absurd h hc
    | cons c l =>
      rw [h] at ht
      rw [← ht] at a5
      simpa using a5
  · rw [List.getLast?_append]
    cases h : endOf s with
    | nil => rw [show cutOf s n ++ markOf n = (cutOf s n ++ ([32, 40] ++ dec2 n)) ++ [41] from by simp [markOf], List.getLast?_nil, Option.none_or, List.getLast?_append, List.getLast?_singleton, Option.some_or]; decide
    | cons c l =>
      rw [← hse, h, List.getLast?_append] at a6
      have hx : ∃ y, (c :: l).getLast? = some y := ⟨_, List.getLast?_eq_some_getLast (by simp)⟩
      obtain ⟨y, hy⟩ := hx
      rw [hy] at a6 ⊢
      simpa using a6
  · intro c hcm
    rcases List.mem_append.1 hcm with hcm | hcm
    · rcases List.mem_append.1 hcm with hcm | hcm
      · exact a7 c (by rw [← ht]; simp [hcm])
      · unfold markOf at hcm
        rcases List.mem_append.1 hcm with hcm | hcm
        · rcases List.mem_append.1 hcm with hcm | hcm
          · simp at hcm; rcases hcm with rfl | rfl <;> decide
          · exact dec2_ok h0 h1 c hcm
        · simp at hcm; subst hcm; decide
    · exact a7 c (by rw [← hse]; simp [hcm])
theorem aside_right {p : Str} {n : Int} (h : asideErr p n = 0) : pathErr p = 0 ∧ 1 ≤ n ∧ n ≤ 99 ∧ cutOf (lastOf p) n ≠ [] ∧ tooGreat (asideQ p n) = false := by
  unfold asideErr at h
  split at h
  case isFalse h' => exact absurd h h'
  rename_i hp
  split at h
  case isTrue => exact absurd h (by decide)
  rename_i hn
  unfold asideE at h
  split at h
  case isTrue => exact absurd h (by decide)
  rename_i hc
  split at h
  case isTrue => exact absurd h (by decide)
  rename_i hg
  exact ⟨hp, by omega, by omega, hc, by simpa using hg⟩
theorem back_aside {p : Str} {n : Int} (h : asideErr p n = 0) : pathErr (asideQ p n) = 0 ∧ parentOf (asideQ p n) = parentOf p := by
  obtain ⟨hp, h0, h1, hc, hg⟩ := aside_right h
  obtain ⟨hpa, hnm, -⟩ := back_parts hp
  have hx := aside_name hnm h0 h1 hc
  obtain ⟨e1, e2⟩ := parent_join (a := parentOf p) (isName_free hx)
  refine ⟨pathErr_zero.2 ⟨fun n hm => ?_, hg⟩, e1⟩
  unfold asideQ at hm
  rw [e2] at hm
  split at hm
  · rw [List.mem_singleton] at hm; subst hm; exact hx
  · rename_i hne
    rcases hpa with hpa | hpa
    · exact absurd hpa hne
    · rcases List.mem_append.1 hm with hm | hm
      · exact (pathErr_zero.1 hpa).1 n hm
      · rw [List.mem_singleton] at hm; subst hm; exact hx
theorem joinOf_inj {a b c : Str} (h : joinOf a b = joinOf a c) : b = c := by
  unfold joinOf at h
  split at h
  · exact h
  · have := List.append_cancel_left h
    simpa using this
theorem dig_inj : ∀ j k, j < 10 → k < 10 → UInt8.ofNat (48 + j) = UInt8.ofNat (48 + k) → j = k := by
  have : ∀ j : Fin 10, ∀ k : Fin 10, UInt8.ofNat (48 + j.val) = UInt8.ofNat (48 + k.val) → j = k := by decide
  intro j k hj hk h
  have := this ⟨j, hj⟩ ⟨k, hk⟩ h
  simpa using this
theorem dig_ne : ∀ j, j < 10 → UInt8.ofNat (48 + j) ≠ 40 := by decide
theorem mark_inj {a b : Str} {n m : Int} (hn0 : 1 ≤ n) (hn1 : n ≤ 99) (hm0 : 1 ≤ m) (hm1 : m ≤ 99) (h : a ++ markOf n = b ++ markOf m) : n = m := by
  have h1 : (a ++ markOf n).reverse = (b ++ markOf m).reverse := by rw [h]
  unfold markOf dec2 at h1
  split at h1 <;> split at h1 <;> simp only [List.reverse_append, List.reverse_cons, List.reverse_nil, List.nil_append, List.singleton_append, List.cons_append, List.append_assoc, List.cons.injEq, true_and] at h1
  · have := dig_inj _ _ (by omega) (by omega) h1.1
    omega
  · exact absurd h1.2.1.symm (dig_ne _ (by omega))
  · exact absurd h1.2.1 (dig_ne _ (by omega))
  · have e1 := dig_inj _ _ (by omega) (by omega) h1.1
    have e2 := dig_inj _ _ (by omega) (by omega) h1.2.1
    omega
theorem apart {p : Str} {n m : Int} (hn : asideErr p n = 0) (hm : asideErr p m = 0) : asideQ p n = asideQ p m ↔ n = m := by
  obtain ⟨-, a0, a1, -, -⟩ := aside_right hn
  obtain ⟨-, b0, b1, -, -⟩ := aside_right hm
  constructor
  · intro h
    have h1 := joinOf_inj h
    have h2 := List.append_cancel_right h1
    exact mark_inj a0 a1 b0 b1 h2
  · rintro rfl; rfl
end Go.Proofs.YtkkfilkmkdnboaaGreatDoor

/- Paths, plain, 2: under the name that the trees know it by. -/
