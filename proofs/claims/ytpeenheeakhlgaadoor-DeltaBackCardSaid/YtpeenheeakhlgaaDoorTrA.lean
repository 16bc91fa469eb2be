import Derived.Test.YtpeenheeakhlgaaDoorPaB
import Derived.Test.YtpeenheeakhlgaaDoorTyE
/- Trees in the abstract layer, 1: versions, entries, the place of a path, the parent. -/
set_option linter.unusedSimpArgs false
set_option linter.unnecessarySimpa false
set_option maxHeartbeats 1000000
namespace Go.Proofs.YtpeenheeakhlgaaDoor
open Go.Ab Go.RowKit
set_option maxRecDepth 10000
attribute [local irreducible] Awp Ops OpsX Wanted Red ExOk Go.Ab.Fin ACall Rz RzL RzRows Enters ResOk RenV RenVL ArgV ArgVL

theorem a_isNaN (s : Str) : AFn C.P 78 [.v (str s)] (.v (.bool false)) := by
  refine acall_intro Tryd.func78 rfl _ Tryd.ntmps78 (Nat.le_of_ble_eq_true rfl) _ Tryd.results78 0 rfl rfl ?_
  repeat' (first | refine walk ?_ | fail | ((first | (apply awp_cond; rfl)); all_goals (intro hc; have hp := hc; first | (simp at hp; done) | ((try simp at hp); first | (exfalso; omega) | skip))) | (apply awp_cond_any; rfl))
  all_goals (apply fin_bool; rfl; simp)
theorem a_compare (a b : Str) : AFn C.P 65 [.v (str a), .v (str b)] (.v (.int .i64 (strCmp a b))) := by
  refine acall_intro Tryd.func65 rfl _ Tryd.ntmps65 (Nat.le_of_ble_eq_true rfl) _ Tryd.results65 0 rfl rfl ?_
  repeat' (first | refine walk ?_ | (first | (apply to_call Tryd.func78 rfl rfl; intro hIsFn; refine o_callf hIsFn (a_isNaN ..) ?_; skip)) | ((first | (apply awp_cond; rfl)); all_goals (intro hc; have hp := hc; first | (simp at hp; done) | ((try simp at hp); first | (exfalso; omega) | skip))) | (apply awp_cond_any; rfl))
  all_goals (apply fin_int; rfl; simp_all [strCmp])
theorem a_isVerT (n : Int) : AFn C.P 42 [.v (.int .i64 n)] (.v (.bool (isVer n))) := by
  refine acall_intro Tryd.func42 rfl _ Tryd.ntmps42 (Nat.le_of_ble_eq_true rfl) _ Tryd.results42 0 rfl rfl ?_
  repeat' (first | refine walk ?_ | fail | ((first | (apply ops_split_t; rfl; rfl; exact nle rfl) | (apply ops_split_f; rfl; rfl; exact nle rfl) | (apply awp_cond; rfl)); all_goals (intro hc; have hp := hc; first | (simp at hp; done) | ((try simp at hp); first | (exfalso; omega) | skip))) | (apply awp_cond_any; rfl))
  all_goals (apply fin_bool; rfl; simp_all [isVer]; try (intro _; omega))
theorem a_isVerR (n : Int) : AFn C.P 23 [.v (.int .i64 n)] (.v (.bool (isVer n))) := by
  refine acall_intro Tryd.func23 rfl _ Tryd.ntmps23 (Nat.le_of_ble_eq_true rfl) _ Tryd.results23 0 rfl rfl ?_
  repeat' (first | refine walk ?_ | fail | ((first | (apply ops_split_t; rfl; rfl; exact nle rfl) | (apply ops_split_f; rfl; rfl; exact nle rfl) | (apply awp_cond; rfl)); all_goals (intro hc; have hp := hc; first | (simp at hp; done) | ((try simp at hp); first | (exfalso; omega) | skip))) | (apply awp_cond_any; rfl))
  all_goals (apply fin_bool; rfl; simp_all [isVer]; try (intro _; omega))
theorem a_checkEntry (e : Ent) (he : e.small) : AFn C.P 68 [.agg e.row] (.v (.int .i64 (entErr e))) := by
  have h1 := he.1
  have h2 := he.2
  have hp := a_pcheck e.path (by omega)
  have hv := a_isVerT e.ver
  have hE : entErr e = if pathErr e.path = 0 then (if e.fold = true ∧ ¬ e.text = [] then 1 else if 300 < e.text.length then 2 else if isVer e.ver = true then 0 else 3) else pathErr e.path := rfl
  generalize entErr e = E at *
  generalize isVer e.ver = V at *
  generalize pathErr e.path = F at *
  refine acall_intro Tryd.func68 rfl _ Tryd.ntmps68 (Nat.le_of_ble_eq_true rfl) _ Tryd.results68 0 rfl rfl ?_
  repeat' (first | refine walk ?_ | (first | (apply to_call Tryd.func52 rfl rfl; intro hIsFn; refine o_callf hIsFn (hp ..) ?_; skip) | (apply to_call Tryd.func42 rfl rfl; intro hIsFn; refine o_callf hIsFn (hv ..) ?_; skip)) | ((first | (apply ops_split_t; rfl; rfl; exact nle rfl) | (apply ops_split_f; rfl; rfl; exact nle rfl) | (apply awp_cond; rfl)); all_goals (intro hc; have hp := hc; first | (simp at hp; done) | ((try simp at hp); first | (exfalso; omega) | skip))) | (apply awp_cond_any; rfl))
  all_goals try (exfalso; omega)
  all_goals (apply fin_int; rfl; rw [hE]; simp_all; try omega)
theorem a_atC (e : Ent) (p : Str) : AFn C.P 64 [.agg e.row, .v (str p)] (.v (.int .i64 (strCmp e.path p))) := by
  refine acall_intro Tryd.func64 rfl _ Tryd.ntmps64 (Nat.le_of_ble_eq_true rfl) _ Tryd.results64 0 rfl rfl ?_
  repeat' (first | refine walk ?_ | (first | (apply to_call Tryd.func65 rfl rfl; intro hIsFn; refine o_callf hIsFn (a_compare ..) ?_; skip)) | ((first | (apply awp_cond; rfl)); all_goals (intro hc; have hp := hc; first | (simp at hp; done) | ((try simp at hp); first | (exfalso; omega) | skip))) | (apply awp_cond_any; rfl))
  all_goals (apply fin_int; rfl; rfl)
theorem a_searchE (l : List Ent) (p : Str) (hl : l.length ≤ 140737488355328) (hs : rising entLt l = true) :
    AFn C.P 63 [entAV l, .v (str p), .clo (.func 64) [] []] (.tup [.v (.int .i64 (posE l p)), .v (.bool (hitE l p))]) := by
  refine acall_intro Tryd.func63 rfl _ Tryd.ntmps63 (Nat.le_of_ble_eq_true rfl) _ Tryd.results63 0 rfl rfl ?_
  repeat' (first | refine walk ?_ | fail | ((first | (apply ops_split_t; rfl; rfl; exact nle rfl) | (apply ops_split_f; rfl; rfl; exact nle rfl) | (apply awp_cond; rfl)); all_goals (intro hc; have hp := hc; first | (simp at hp; done) | ((try simp at hp); first | (exfalso; omega) | skip))) | (apply awp_cond_any; rfl))
  (refine Awp.red (red_pure (ts := [(0, entAV l), (1, .v (str p)), (2, .clo (.func 64) [] []), (8, .v (.int .i64 l.length)), (9, .v (.int .i64 ((0 : Nat) : Int))), (10, .v (.int .i64 l.length))]) ?_) ?_; ((repeat (first | exact tsok_nil | refine p_pure ?_ | refine p_eq ?_ ?_))))
  all_goals try (rw [List.length_map]; done)
  refine awp_loop (fun n σ => ∃ lo hi : Nat, lo ≤ hi ∧ hi ≤ l.length ∧ n = hi - lo ∧ (∀ (k : Nat) (h : k < l.length), k < lo → Op.bytesLess l[k].path p = true) ∧ (∀ (k : Nat) (h : k < l.length), hi ≤ k → Op.bytesLess l[k].path p = false) ∧ σ = ⟨[(0, entAV l), (1, .v (str p)), (2, .clo (.func 64) [] []), (8, .v (.int .i64 l.length)), (9, .v (.int .i64 ((lo : Nat) : Int))), (10, .v (.int .i64 ((hi : Nat) : Int)))], [], C.nh⟩) l.length ⟨0, l.length, by omega, Nat.le_refl _, rfl, fun _ _ h => absurd h (by omega), fun _ _ h => absurd h (by omega), rfl⟩ ?_
  rintro n σ ⟨lo, hi, hle, hhi, rfl, h1, h2, rfl⟩
  by_cases hlt : lo < hi
  · obtain ⟨m, hm⟩ : ∃ m : Nat, m = (lo + hi) / 2 := ⟨_, rfl⟩
    have hmi : ((lo : Int) + (hi : Int)) / 2 = (m : Int) := by omega
    have hml : m < l.length := by omega
    have hr := getRow (f := Ent.row) hml
    have hr2 : (l.map Ent.row)[(((lo : Int) + (hi : Int)) / 2).toNat]? = some l[m].row := by rw [hmi]; exact hr
    repeat' (first | refine walk ?_ | (first | (apply opsx_val; first | (apply ex_conv_u; rfl; rfl; rfl; rfl; rfl; omega; omega; exact nle rfl) | (apply ex_conv_i; rfl; rfl; rfl; rfl; rfl; omega; omega; exact nle rfl)) | (apply opsx_val; apply ex_half; (case hx => rfl); (case hy => rfl); (case hk => decide); (case hN => exact nle rfl)) | (refine o_callv Tryd.func64 (a_atC ..) ?_)) | ((first | (apply ops_split_t; rfl; rfl; exact nle rfl) | (apply ops_split_f; rfl; rfl; exact nle rfl) | (apply awp_cond; rfl)); all_goals (intro hc; have hp := hc; first | (simp at hp; done) | ((try simp at hp); first | (exfalso; omega) | skip))) | (apply awp_cond_any; rfl))
    all_goals try (exfalso; omega)
    · have hmg : Op.bytesLess l[m].path p = true := (strCmp_neg _ _).1 hp
      refine ⟨hi - (m + 1), _, by omega, red_pure (ts := [(0, entAV l), (1, .v (str p)), (2, .clo (.func 64) [] []), (8, .v (.int .i64 l.length)), (9, .v (.int .i64 ((m + 1 : Nat) : Int))), (10, .v (.int .i64 ((hi : Nat) : Int)))]) ?_, m + 1, hi, by omega, hhi, rfl, fun k h hk => ?_, h2, rfl⟩
      · (repeat (first | exact tsok_nil | refine p_pure ?_ | refine p_eq ?_ ?_))
        all_goals (rw [hmi]; rfl)
      · by_cases e : k = m
        · subst e; exact hmg
        · exact bl_trans (rising_ltE hs k m h hml (by omega)) hmg
    · have hmg : Op.bytesLess l[m].path p = false := (by
        cases h : Op.bytesLess l[m].path p
        · rfl
        · have := (strCmp_neg _ _).2 h; omega)
      refine ⟨m - lo, _, by omega, red_pure (ts := [(0, entAV l), (1, .v (str p)), (2, .clo (.func 64) [] []), (8, .v (.int .i64 l.length)), (9, .v (.int .i64 ((lo : Nat) : Int))), (10, .v (.int .i64 ((m : Nat) : Int)))]) ?_, lo, m, by omega, by omega, rfl, h1, fun k h hk => ?_, rfl⟩
      · (repeat (first | exact tsok_nil | refine p_pure ?_ | refine p_eq ?_ ?_))
        all_goals (rw [hmi])
      · by_cases e : k = m
        · subst e; exact hmg
        · cases hkg : Op.bytesLess l[k].path p
          · rfl
          · rw [bl_trans (rising_ltE hs m k hml h (by omega)) hkg] at hmg; cases hmg
  obtain rfl : lo = hi := by omega
  have hpos : posE l p = lo := posE_is hhi h1 (fun h => h2 lo h (by omega))
  by_cases hin : lo < l.length
  · have hr := getRow (f := Ent.row) hin
    have hhit : hitE l p = decide (strCmp l[lo].path p = 0) := by
      rw [hitE_pos hs, hpos, List.getElem?_eq_getElem hin]
    repeat' (first | refine walk ?_ | (first | (refine o_callv Tryd.func64 (a_atC ..) ?_)) | ((first | (apply ops_split_t; rfl; rfl; exact nle rfl) | (apply ops_split_f; rfl; rfl; exact nle rfl) | (apply awp_cond; rfl)); all_goals (intro hc; have hp := hc; first | (simp at hp; done) | ((try simp at hp); first | (exfalso; omega) | skip))) | (apply awp_cond_any; rfl))
    all_goals try (exfalso; omega)
    rw [hpos, hhit]
    (refine f_pure (rs := [.tmp 6, .tmp 7]) ?_; (repeat' (first | exact rzl_nil | apply rzl_cons | exact rz_pure rfl | exact rz_ex | exact z_os | apply rz_agg | apply rz_tup | apply rz_clo | apply rz_int | apply rz_bool | apply rz_str | refine z_eq ?_ | apply rz_sl)); all_goals trace_state)
  · have hhit : hitE l p = false := by
      rw [hitE_pos hs, hpos, List.getElem?_eq_none (by omega)]
    repeat' (first | refine walk ?_ | (first | (refine o_callv Tryd.func64 (a_atC ..) ?_)) | ((first | (apply ops_split_t; rfl; rfl; exact nle rfl) | (apply ops_split_f; rfl; rfl; exact nle rfl) | (apply awp_cond; rfl)); all_goals (intro hc; have hp := hc; first | (simp at hp; done) | ((try simp at hp); first | (exfalso; omega) | skip))) | (apply awp_cond_any; rfl))
    all_goals try (exfalso; omega)
    rw [hpos, hhit]
    (refine f_pure (rs := [.tmp 6, .tmp 7]) ?_; (repeat' (first | exact rzl_nil | apply rzl_cons | exact rz_pure rfl | exact rz_ex | exact z_os | apply rz_agg | apply rz_tup | apply rz_clo | apply rz_int | apply rz_bool | apply rz_str | refine z_eq ?_ | apply rz_sl)); all_goals trace_state)
theorem a_at (l : List Ent) (p : Str) (hl : l.length ≤ 140737488355328) (hs : rising entLt l = true) :
    AFn C.P 53 [entAV l, .v (str p)] (.tup [.v (.int .i64 (posE l p)), .v (.bool (hitE l p))]) := by
  have hse := a_searchE l p hl hs
  refine acall_intro Tryd.func53 rfl _ Tryd.ntmps53 (Nat.le_of_ble_eq_true rfl) _ Tryd.results53 0 rfl rfl ?_
  repeat' (first | refine walk ?_ | (first | (apply to_call Tryd.func63 rfl rfl; intro hIsFn; refine o_callp hIsFn (hse ..) ?_)) | ((first | (apply awp_cond; rfl)); all_goals (intro hc; have hp := hc; first | (simp at hp; done) | ((try simp at hp); first | (exfalso; omega) | skip))) | (apply awp_cond_any; rfl))
  (refine f_pure (rs := [.tmp 4, .tmp 5]) ?_; (repeat' (first | exact rzl_nil | apply rzl_cons | exact rz_pure rfl | exact rz_ex | exact z_os | apply rz_agg | apply rz_tup | apply rz_clo | apply rz_int | apply rz_bool | apply rz_str | refine z_eq ?_ | apply rz_sl)); all_goals trace_state)
end Go.Proofs.YtpeenheeakhlgaaDoor

/- Trees in the abstract layer, 2: the parent; checkTree, check, Check. -/
set_option linter.unusedSimpArgs false
set_option linter.unnecessarySimpa false
set_option maxHeartbeats 1000000
namespace Go.Proofs.YtpeenheeakhlgaaDoor
open Go.Ab Go.RowKit
set_option maxRecDepth 10000
attribute [local irreducible] Awp Ops OpsX Wanted Red ExOk Go.Ab.Fin ACall Rz RzL RzRows Enters ResOk RenV RenVL ArgV ArgVL

def parEnt (l : List Ent) (p : Str) : Ent := if parentOf p = [] then ⟨[], true, [], 0⟩ else match l.find? (atP (parentOf p)) with | some x => x | none => ⟨[], false, [], 0⟩
def parOk (l : List Ent) (p : Str) : Bool := decide (parentOf p = []) || hitE l (parentOf p)
theorem parEnt_err (l : List Ent) (p : Str) : folderErr l (parentOf p) = if parOk l p = true then (if (parEnt l p).fold = true then 0 else 4) else 5 := by
  unfold folderErr parOk parEnt
  by_cases h : parentOf p = []
  · simp [h]
  · cases hh : hitE l (parentOf p) with
    | true =>
      obtain ⟨x, hx, hk⟩ := List.any_eq_true.1 hh
      cases hf : l.find? (atP (parentOf p)) with
      | none => rw [List.find?_eq_none] at hf; exact absurd hk (hf x hx)
      | some y => simp [h]
    | false => simp [h, (hitE_none hh).1]
theorem a_parentT (l : List Ent) (p : Str) (hl : l.length ≤ 140737488355328) (hs : rising entLt l = true) (hp : p.length ≤ 140737488355328) :
    AFn C.P 69 [entAV l, .v (str p)] (.tup [.agg (parEnt l p).row, .v (.bool (parOk l p))]) := by
  have hsp := a_split p (by omega)
  have hat := a_at l (parentOf p) hl hs
  by_cases h : parentOf p = []
  · have e1 : parEnt l p = ⟨[], true, [], 0⟩ := by simp [parEnt, h]
    have e2 : parOk l p = true := by simp [parOk, h]
    rw [h] at hsp hat
    rw [e1, e2]
    refine acall_intro Tryd.func69 rfl _ Tryd.ntmps69 (Nat.le_of_ble_eq_true rfl) _ Tryd.results69 0 rfl rfl ?_
    repeat' (first | refine walk ?_ | (first | (apply to_call Tryd.func80 rfl rfl; intro hIsFn; refine o_callp hIsFn (hsp ..) ?_) | (apply to_call Tryd.func53 rfl rfl; intro hIsFn; refine o_callp hIsFn (hat ..) ?_)) | ((first | (apply awp_cond; rfl)); all_goals (intro hc; have hp := hc; first | (simp at hp; done) | ((try simp at hp); first | (exfalso; omega) | skip))) | (apply awp_cond_any; rfl))
    all_goals try (exfalso; simp_all; done)
    (refine f_pure (rs := [.cell 4 48, .tmp 5]) ?_; (repeat' (first | exact rzl_nil | apply rzl_cons | exact rz_pure rfl | exact rz_ex | exact z_os | apply rz_agg | apply rz_tup | apply rz_clo | apply rz_int | apply rz_bool | apply rz_str | refine z_eq ?_ | apply rz_sl)); all_goals trace_state)
  · cases hh : hitE l (parentOf p) with
    | true =>
      obtain ⟨hk, hpe, hfi, -⟩ := hitE_at hs hh
      have e1 : parEnt l p = l[posE l (parentOf p)] := by simp [parEnt, h, hfi]
      have e2 : parOk l p = true := by simp [parOk, hh]
      rw [hh] at hat
      rw [e1, e2]
      generalize posE l (parentOf p) = k at *
      have hr := getRow (f := Ent.row) hk
      refine acall_intro Tryd.func69 rfl _ Tryd.ntmps69 (Nat.le_of_ble_eq_true rfl) _ Tryd.results69 0 rfl rfl ?_
      repeat' (first | refine walk ?_ | (first | (apply to_call Tryd.func80 rfl rfl; intro hIsFn; refine o_callp hIsFn (hsp ..) ?_) | (apply to_call Tryd.func53 rfl rfl; intro hIsFn; refine o_callp hIsFn (hat ..) ?_)) | ((first | (apply awp_cond; rfl)); all_goals (intro hc; have hp := hc; first | (simp at hp; done) | ((try simp at hp); first | (exfalso; omega) | skip))) | (apply awp_cond_any; rfl))
      all_goals try (exfalso; first | exact h (by assumption) | (simp_all; done))
      (refine f_pure (rs := [.cell 4 48, .tmp 5]) ?_; (repeat' (first | exact rzl_nil | apply rzl_cons | exact rz_pure rfl | exact rz_ex | exact z_os | apply rz_agg | apply rz_tup | apply rz_clo | apply rz_int | apply rz_bool | apply rz_str | refine z_eq ?_ | apply rz_sl)); all_goals trace_state)
    | false =>
      have e1 : parEnt l p = ⟨[], false, [], 0⟩ := by simp [parEnt, h, (hitE_none hh).1]
      have e2 : parOk l p = false := by simp [parOk, hh, h]
      rw [hh] at hat
      rw [e1, e2]
      refine acall_intro Tryd.func69 rfl _ Tryd.ntmps69 (Nat.le_of_ble_eq_true rfl) _ Tryd.results69 0 rfl rfl ?_
      repeat' (first | refine walk ?_ | (first | (apply to_call Tryd.func80 rfl rfl; intro hIsFn; refine o_callp hIsFn (hsp ..) ?_) | (apply to_call Tryd.func53 rfl rfl; intro hIsFn; refine o_callp hIsFn (hat ..) ?_)) | ((first | (apply awp_cond; rfl)); all_goals (intro hc; have hp := hc; first | (simp at hp; done) | ((try simp at hp); first | (exfalso; omega) | skip))) | (apply awp_cond_any; rfl))
      all_goals try (exfalso; first | exact h (by assumption) | (simp_all; done))
      (refine f_pure (rs := [.cell 4 48, .tmp 5]) ?_; (repeat' (first | exact rzl_nil | apply rzl_cons | exact rz_pure rfl | exact rz_ex | exact z_os | apply rz_agg | apply rz_tup | apply rz_clo | apply rz_int | apply rz_bool | apply rz_str | refine z_eq ?_ | apply rz_sl)); all_goals trace_state)
end Go.Proofs.YtpeenheeakhlgaaDoor

/- Trees in the abstract layer, 3: checkTree, check, Check, Find. -/
set_option linter.unusedSimpArgs false
set_option linter.unnecessarySimpa false
set_option maxHeartbeats 1000000
namespace Go.Proofs.YtpeenheeakhlgaaDoor
open Go.Ab Go.RowKit
set_option maxRecDepth 10000
attribute [local irreducible] Awp Ops OpsX Wanted Red ExOk Go.Ab.Fin ACall Rz RzL RzRows Enters ResOk RenV RenVL ArgV ArgVL

theorem leq_ent (a b : Ent) : (Op.bytesLess b.path a.path || decide (b.path = a.path)) = !entLt a b := by
  unfold entLt
  rcases bl_tri a.path b.path with ⟨h1, h2, h3⟩ | ⟨h1, h2, h3⟩ | ⟨h1, h2, h3⟩
  · have h4 : ¬ b.path = a.path := fun e => h3 e.symm
    simp [h1, h2, h4]
  · simp [h1, bl_irr]
  · simp [h1, h2]
theorem treeErr_ent {t : List Ent} (h60 : ¬ 60 < t.length) {k : Nat} (hk : k < t.length) (hs : ∀ g, g ∈ t.take k → entErr g = 0) (h0 : entErr t[k] ≠ 0) : entErr t[k] = treeErr t := by
  have h1 := firstErr_at hk hs h0
  have hz : ¬ firstErr entErr t = 0 := by rw [h1]; exact h0
  simp only [treeErr, h60, hz, if_false]
  rw [h1]
theorem a_checkTree (l : List Ent) (hl : EBig l) : AFn C.P 58 [entAV l] (.v (.int .i64 (treeErr l))) := by
  have hll := hl.len
  refine acall_intro Tryd.func58 rfl _ Tryd.ntmps58 (Nat.le_of_ble_eq_true rfl) _ Tryd.results58 0 rfl rfl ?_
  repeat' (first | refine walk ?_ | fail | ((first | (apply awp_cond; rfl)); all_goals (intro hc; have hp := hc; first | (simp at hp; done) | ((try simp at hp); first | (exfalso; omega) | skip))) | (apply awp_cond_any; rfl))
  · apply fin_int
    rfl
    have h60 : 60 < l.length := by omega
    simp [treeErr, h60]
  have h60 : ¬ 60 < l.length := by omega
  (refine Awp.red (red_pure (ts := [(0, entAV l), (15, entAV l), (16, .v (.int .i64 l.length)), (17, .v (.int .i64 ((0 : Nat) : Int)))]) ?_) ?_; ((repeat (first | exact tsok_nil | refine p_pure ?_ | refine p_eq ?_ ?_))))
  all_goals try (rw [List.length_map]; done)
  refine awp_loop (fun n σ => ∃ i : Nat, i ≤ l.length ∧ n = l.length - i ∧ (∀ g, g ∈ l.take i → entErr g = 0) ∧ σ = ⟨[(0, entAV l), (15, entAV l), (16, .v (.int .i64 l.length)), (17, .v (.int .i64 (i : Int)))], [], C.nh⟩) l.length ⟨0, Nat.zero_le _, rfl, (by simp), rfl⟩ ?_
  rintro n σ ⟨i, hi, rfl, hsofar, rfl⟩
  by_cases hlt : i < l.length
  · have hr := getRow (f := Ent.row) hlt
    have hsm := hl.each l[i] (List.getElem_mem _)
    have hce := a_checkEntry l[i] hsm
    repeat' (first | refine walk ?_ | (first | (apply to_call Tryd.func68 rfl rfl; intro hIsFn; refine o_callf hIsFn (hce ..) ?_; skip)) | ((first | (apply awp_cond; rfl)); all_goals (intro hc; have hp := hc; first | (simp at hp; done) | ((try simp at hp); first | (exfalso; omega) | skip))) | (apply awp_cond_any; rfl))
    all_goals try (exfalso; omega)
    · apply fin_int
      rfl
      exact treeErr_ent h60 hlt hsofar (by assumption)
    · refine ⟨l.length - (i + 1), _, by omega, red_pure (ts := [(0, entAV l), (15, entAV l), (16, .v (.int .i64 l.length)), (17, .v (.int .i64 ((i + 1 : Nat) : Int)))]) ?_, i + 1, by omega, rfl, mem_take_succ hlt hsofar (by assumption), rfl⟩; ((repeat (first | exact tsok_nil | refine p_pure ?_ | refine p_eq ?_ ?_)))
  obtain rfl : i = l.length := by omega
  have hz : firstErr entErr l = 0 := firstErr_zero.2 (fun s hs => hsofar s (by rw [List.take_length]; exact hs))
  clear hsofar
  repeat' (first | refine walk ?_ | fail | ((first | (apply awp_cond; rfl)); all_goals (intro hc; have hp := hc; first | (simp at hp; done) | ((try simp at hp); first | (exfalso; omega) | skip))) | (apply awp_cond_any; rfl))
  all_goals try (exfalso; omega)
  (refine Awp.red (red_pure (ts := [(0, entAV l), (6, .v (.int .i64 ((0 + 1 : Nat) : Int)))]) ?_) ?_; ((repeat (first | exact tsok_nil | refine p_pure ?_ | refine p_eq ?_ ?_))))
  refine awp_loop (fun n σ => ∃ i : Nat, i ≤ (l.drop 1).length ∧ n = (l.drop 1).length - i ∧ (∀ (k : Nat) (h : k + 1 < l.length), k < i → entLt (l[k]'(by omega)) l[k + 1] = true) ∧ σ = ⟨[(0, entAV l), (6, .v (.int .i64 ((i + 1 : Nat) : Int)))], [], C.nh⟩) (l.drop 1).length ⟨0, Nat.zero_le _, rfl, (fun k h hk => absurd hk (Nat.not_lt_zero _)), rfl⟩ ?_
  have hdl : (l.drop 1).length = l.length - 1 := by simp
  rintro n σ ⟨i, hi, rfl, hsofar, rfl⟩
  by_cases hlt : i + 1 < l.length
  · have hr := getRow (f := Ent.row) hlt
    have hr' := getRow (f := Ent.row) (l := l) (i := i) (by omega)
    have hle := leq_ent l[i] l[i + 1]
    repeat' (first | refine walk ?_ | fail | ((first | (apply awp_cond; rfl)); all_goals (intro hc; have hp := hc; first | (simp at hp; done) | ((try simp at hp); first | (exfalso; omega) | skip))) | (apply awp_cond_any; rfl))
    all_goals try (exfalso; omega)
    · have hrf : ¬ rising entLt l = true := fun h => by
        have := rising_iff.1 h i hlt
        simp_all
      apply fin_int
      rfl
      simp [treeErr, h60, hz, hrf]
    · have hok : entLt l[i] l[i + 1] = true := (by simp_all)
      refine ⟨(l.drop 1).length - (i + 1), _, by omega, red_pure (ts := [(0, entAV l), (6, .v (.int .i64 ((i + 1 + 1 : Nat) : Int)))]) ?_, i + 1, by omega, rfl, (fun k h hk => by
        by_cases e : k = i
        · subst e; exact hok
        · exact hsofar k h (by omega)), rfl⟩; ((repeat (first | exact tsok_nil | refine p_pure ?_ | refine p_eq ?_ ?_)))
  have hrise : rising entLt l = true := rising_iff.2 fun k h => hsofar k h (by simp at hi; omega)
  clear hsofar
  repeat' (first | refine walk ?_ | fail | ((first | (apply awp_cond; rfl)); all_goals (intro hc; have hp := hc; first | (simp at hp; done) | ((try simp at hp); first | (exfalso; omega) | skip))) | (apply awp_cond_any; rfl))
  all_goals try (exfalso; omega)
  (refine Awp.red (red_pure (ts := [(0, entAV l), (7, .v (.int .i64 (if (l.take 0).any (fun x => decide (¬ parErr l x = 0)) = true then 4 else 0))), (45, entAV l), (46, .v (.int .i64 l.length)), (47, .v (.int .i64 ((0 : Nat) : Int)))]) ?_) ?_; ((repeat (first | exact tsok_nil | refine p_pure ?_ | refine p_eq ?_ ?_))))
  all_goals try (rw [List.length_map]; done)
  refine awp_loop (fun n σ => ∃ i : Nat, i ≤ l.length ∧ n = l.length - i ∧ (∀ g, g ∈ l.take i → ¬ parErr l g = 5) ∧ σ = ⟨[(0, entAV l), (7, .v (.int .i64 (if (l.take i).any (fun x => decide (¬ parErr l x = 0)) = true then 4 else 0))), (45, entAV l), (46, .v (.int .i64 l.length)), (47, .v (.int .i64 (i : Int)))], [], C.nh⟩) l.length ⟨0, Nat.zero_le _, rfl, (by simp), rfl⟩ ?_
  rintro n σ ⟨i, hi, rfl, hsofar, rfl⟩
  by_cases hlt : i < l.length
  · have hr := getRow (f := Ent.row) hlt
    have hsm := hl.each l[i] (List.getElem_mem _)
    have hpa := a_parentT l l[i].path hl.len hrise (by have := hsm.1; omega)
    have hpe : parErr l l[i] = _ := parEnt_err l l[i].path
    have htk := List.take_succ_eq_append_getElem hlt
    generalize parOk l l[i].path = ok at hpa hpe
    generalize parEnt l l[i].path = pe at hpa hpe
    repeat' (first | refine walk ?_ | (first | (apply to_call Tryd.func69 rfl rfl; intro hIsFn; refine o_callp hIsFn (hpa ..) ?_)) | ((first | (apply awp_cond; rfl)); all_goals (intro hc; have hp := hc; first | (simp at hp; done) | ((try simp at hp); first | (exfalso; omega) | skip))) | (apply awp_cond_any; rfl))
    all_goals try (exfalso; omega)
    · have h5 : parErr l l[i] = 5 := (by rw [hpe]; simp_all)
      have hany : l.any (fun x => decide (parErr l x = 5)) = true := List.any_eq_true.2 ⟨l[i], List.getElem_mem _, by simp [h5]⟩
      apply fin_int
      rfl
      simp [treeErr, h60, hz, hrise, hany]
    · have h4 : parErr l l[i] = 4 := (by rw [hpe]; simp_all)
      refine ⟨l.length - (i + 1), _, by omega, red_pure (ts := [(0, entAV l), (7, .v (.int .i64 (if (l.take (i + 1)).any (fun x => decide (¬ parErr l x = 0)) = true then 4 else 0))), (45, entAV l), (46, .v (.int .i64 l.length)), (47, .v (.int .i64 ((i + 1 : Nat) : Int)))]) ?_, i + 1, by omega, rfl, mem_take_succ hlt hsofar (by rw [h4]; decide), rfl⟩; ((repeat (first | exact tsok_nil | refine p_pure ?_ | refine p_eq ?_ ?_)); all_goals (rw [htk, List.any_append]; simp [h4]))
    · have h4 : parErr l l[i] = 0 := (by rw [hpe]; simp_all)
      refine ⟨l.length - (i + 1), _, by omega, red_pure (ts := [(0, entAV l), (7, .v (.int .i64 (if (l.take (i + 1)).any (fun x => decide (¬ parErr l x = 0)) = true then 4 else 0))), (45, entAV l), (46, .v (.int .i64 l.length)), (47, .v (.int .i64 ((i + 1 : Nat) : Int)))]) ?_, i + 1, by omega, rfl, mem_take_succ hlt hsofar (by rw [h4]; decide), rfl⟩; ((repeat (first | exact tsok_nil | refine p_pure ?_ | refine p_eq ?_ ?_)); all_goals (rw [htk, List.any_append]; simp [h4]))
  obtain rfl : i = l.length := by omega
  rw [List.take_length] at *
  have hno : ¬ l.any (fun x => decide (parErr l x = 5)) = true := fun h => by
    obtain ⟨x, hx, hk⟩ := List.any_eq_true.1 h
    exact hsofar x hx (by simpa using hk)
  have hE : treeErr l = if l.any (fun x => decide (¬ parErr l x = 0)) = true then 4 else 0 := by
    unfold treeErr
    rw [if_neg h60, if_pos hz, if_pos hrise, if_neg hno]
  repeat' (first | refine walk ?_ | fail | ((first | (apply awp_cond; rfl)); all_goals (intro hc; have hp := hc; first | (simp at hp; done) | ((try simp at hp); first | (exfalso; omega) | skip))) | (apply awp_cond_any; rfl))
  all_goals try (exfalso; omega)
  apply fin_int
  rfl
  exact hE.symm
end Go.Proofs.YtpeenheeakhlgaaDoor

/- Trees in the abstract layer, 4: check, Check, Find; the reference's EntryAt, IsFolder, CheckTree. -/
set_option linter.unusedSimpArgs false
set_option linter.unnecessarySimpa false
set_option maxHeartbeats 1000000
namespace Go.Proofs.YtpeenheeakhlgaaDoor
open Go.Ab Go.RowKit
set_option maxRecDepth 10000
attribute [local irreducible] Awp Ops OpsX Wanted Red ExOk Go.Ab.Fin ACall Rz RzL RzRows Enters ResOk RenV RenVL ArgV ArgVL

def treeRow (t : List Ent) : List AV := [entAV t]
theorem a_checkTs (ts : List (List Ent)) (hn : ts.length ≤ 1000000) (hs : ∀ t, t ∈ ts → EBig t) : AFn C.P 41 [.sl false (ts.map treeRow)] (.v (.int .i64 (firstErr treeErr ts))) := by
  refine acall_intro Tryd.func41 rfl _ Tryd.ntmps41 (Nat.le_of_ble_eq_true rfl) _ Tryd.results41 0 rfl rfl ?_
  repeat' (first | refine walk ?_ | fail | ((first | (apply awp_cond; rfl)); all_goals (intro hc; have hp := hc; first | (simp at hp; done) | ((try simp at hp); first | (exfalso; omega) | skip))) | (apply awp_cond_any; rfl))
  (refine Awp.red (red_pure (ts := [(6, .sl false (ts.map treeRow)), (7, .v (.int .i64 ts.length)), (8, .v (.int .i64 ((0 : Nat) : Int)))]) ?_) ?_; ((repeat (first | exact tsok_nil | refine p_pure ?_ | refine p_eq ?_ ?_))))
  all_goals try (rw [List.length_map]; done)
  refine awp_loop (fun n σ => ∃ i : Nat, i ≤ ts.length ∧ n = ts.length - i ∧ (∀ t, t ∈ ts.take i → treeErr t = 0) ∧ σ = ⟨[(6, .sl false (ts.map treeRow)), (7, .v (.int .i64 ts.length)), (8, .v (.int .i64 (i : Int)))], [], C.nh⟩) ts.length ⟨0, Nat.zero_le _, rfl, (by simp), rfl⟩ ?_
  rintro n σ ⟨i, hi, rfl, hsofar, rfl⟩
  by_cases hlt : i < ts.length
  · have hr := getRow (f := treeRow) hlt
    have hct := a_checkTree ts[i] (hs _ (List.getElem_mem _))
    repeat' (first | refine walk ?_ | (first | (apply to_call Tryd.func58 rfl rfl; intro hIsFn; refine o_callp hIsFn (hct ..) ?_)) | ((first | (apply awp_cond; rfl)); all_goals (intro hc; have hp := hc; first | (simp at hp; done) | ((try simp at hp); first | (exfalso; omega) | skip))) | (apply awp_cond_any; rfl))
    all_goals try (exfalso; omega)
    · apply fin_int
      rfl
      exact (firstErr_at hlt hsofar (by assumption)).symm
    · refine ⟨ts.length - (i + 1), _, by omega, red_pure (ts := [(6, .sl false (ts.map treeRow)), (7, .v (.int .i64 ts.length)), (8, .v (.int .i64 ((i + 1 : Nat) : Int)))]) ?_, i + 1, by omega, rfl, mem_take_succ hlt hsofar (by assumption), rfl⟩; ((repeat (first | exact tsok_nil | refine p_pure ?_ | refine p_eq ?_ ?_)))
  obtain rfl : i = ts.length := by omega
  have hz : firstErr treeErr ts = 0 := firstErr_zero.2 (fun s hs => hsofar s (by rw [List.take_length]; exact hs))
  clear hsofar
  repeat' (first | refine walk ?_ | fail | ((first | (apply awp_cond; rfl)); all_goals (intro hc; have hp := hc; first | (simp at hp; done) | ((try simp at hp); first | (exfalso; omega) | skip))) | (apply awp_cond_any; rfl))
  all_goals try (exfalso; omega)
  apply fin_int
  rfl
  exact hz.symm
theorem a_checkT (l : List Ent) (hl : EBig l) : AFn C.P 41 [.sl false [[entAV l]]] (.v (.int .i64 (treeErr l))) := by
  have h := a_checkTs [l] (by simp) (by simpa using hl)
  rw [show firstErr treeErr [l] = treeErr l from by simp only [firstErr]; split <;> simp_all] at h
  exact h
theorem a_tcheck (l : List Ent) (hl : EBig l) : AFn C.P 32 [entAV l] (.v (.int .i64 (treeErr l))) := by
  have h := a_checkT l hl
  refine acall_intro Tryd.func32 rfl _ Tryd.ntmps32 (Nat.le_of_ble_eq_true rfl) _ Tryd.results32 0 rfl rfl ?_
  repeat' (first | refine walk ?_ | (first | (refine o_fzl ?_) | (apply to_call Tryd.func41 rfl rfl; intro hIsFn; refine o_callp hIsFn (h ..) ?_)) | ((first | (apply awp_cond; rfl)); all_goals (intro hc; have hp := hc; first | (simp at hp; done) | ((try simp at hp); first | (exfalso; omega) | skip))) | (apply awp_cond_any; rfl))
  all_goals (apply fin_int; rfl; rfl)

theorem a_entryAt (l : List Ent) (p : Str) (hl : l.length ≤ 140737488355328) : AFn C.P 35 [entAV l, .v (str p)] (.v (.int .i64 (idxOf (atP p) l))) := by
  refine acall_intro Tryd.func35 rfl _ Tryd.ntmps35 (Nat.le_of_ble_eq_true rfl) _ Tryd.results35 0 rfl rfl ?_
  repeat' (first | refine walk ?_ | fail | ((first | (apply awp_cond; rfl)); all_goals (intro hc; have hp := hc; first | (simp at hp; done) | ((try simp at hp); first | (exfalso; omega) | skip))) | (apply awp_cond_any; rfl))
  (refine Awp.red (red_pure (ts := [(0, entAV l), (1, .v (str p)), (5, .v (.int .i64 ((0 : Nat) : Int)))]) ?_) ?_; ((repeat (first | exact tsok_nil | refine p_pure ?_ | refine p_eq ?_ ?_))))
  refine awp_loop (fun n σ => ∃ i : Nat, i ≤ l.length ∧ n = l.length - i ∧ (∀ x, x ∈ l.take i → atP p x = false) ∧ σ = ⟨[(0, entAV l), (1, .v (str p)), (5, .v (.int .i64 (i : Int)))], [], C.nh⟩) l.length ⟨0, Nat.zero_le _, rfl, (by simp), rfl⟩ ?_
  rintro n σ ⟨i, hi, rfl, hsofar, rfl⟩
  by_cases hlt : i < l.length
  · have hr := getRow (f := Ent.row) hlt
    repeat' (first | refine walk ?_ | fail | ((first | (apply awp_cond; rfl)); all_goals (intro hc; have hp := hc; first | (simp at hp; done) | ((try simp at hp); first | (exfalso; omega) | skip))) | (apply awp_cond_any; rfl))
    all_goals try (exfalso; omega)
    · apply fin_int
      rfl
      exact (idxOf_at hlt hsofar (by simp_all [atP])).symm
    · refine ⟨l.length - (i + 1), _, by omega, red_pure (ts := [(0, entAV l), (1, .v (str p)), (5, .v (.int .i64 ((i + 1 : Nat) : Int)))]) ?_, i + 1, by omega, rfl, mem_take_succ hlt hsofar (by simp_all [atP]), rfl⟩; ((repeat (first | exact tsok_nil | refine p_pure ?_ | refine p_eq ?_ ?_)))
  obtain rfl : i = l.length := by omega
  repeat' (first | refine walk ?_ | fail | ((first | (apply awp_cond; rfl)); all_goals (intro hc; have hp := hc; first | (simp at hp; done) | ((try simp at hp); first | (exfalso; omega) | skip))) | (apply awp_cond_any; rfl))
  all_goals try (exfalso; omega)
  apply fin_int
  rfl
  rw [idxOf_none fun x hx => hsofar x (by rw [List.take_length]; exact hx)]
theorem a_isFolder (l : List Ent) (p : Str) (hl : l.length ≤ 140737488355328) : AFn C.P 44 [entAV l, .v (str p)] (.v (.int .i64 (folderErr l p))) := by
  have hea := a_entryAt l p hl
  have hE : folderErr l p = if p = [] then 0 else match l.find? (atP p) with | none => 5 | some x => if x.fold = true then 0 else 4 := rfl
  generalize folderErr l p = E at *
  rcases idxOf_find (atP p) l with ⟨h1, h2⟩ | ⟨k, hk, h1, h2⟩
  · rw [h1] at hea
    rw [h2] at hE
    refine acall_intro Tryd.func44 rfl _ Tryd.ntmps44 (Nat.le_of_ble_eq_true rfl) _ Tryd.results44 0 rfl rfl ?_
    repeat' (first | refine walk ?_ | (first | (apply to_call Tryd.func35 rfl rfl; intro hIsFn; refine o_callf hIsFn (hea ..) ?_; skip)) | ((first | (apply awp_cond; rfl)); all_goals (intro hc; have hp := hc; first | (simp at hp; done) | ((try simp at hp); first | (exfalso; omega) | skip))) | (apply awp_cond_any; rfl))
    all_goals try (exfalso; omega)
    all_goals (apply fin_int; rfl; simp_all)
  · rw [h1] at hea
    rw [h2] at hE
    have hr := getRow (f := Ent.row) hk
    refine acall_intro Tryd.func44 rfl _ Tryd.ntmps44 (Nat.le_of_ble_eq_true rfl) _ Tryd.results44 0 rfl rfl ?_
    repeat' (first | refine walk ?_ | (first | (apply to_call Tryd.func35 rfl rfl; intro hIsFn; refine o_callf hIsFn (hea ..) ?_; skip)) | ((first | (apply awp_cond; rfl)); all_goals (intro hc; have hp := hc; first | (simp at hp; done) | ((try simp at hp); first | (exfalso; omega) | skip))) | (apply awp_cond_any; rfl))
    all_goals try (exfalso; omega)
    all_goals (apply fin_int; rfl; simp_all)
end Go.Proofs.YtpeenheeakhlgaaDoor

/- Trees in the abstract layer, 5: the reference's CheckTree. -/
set_option linter.unusedSimpArgs false
set_option linter.unnecessarySimpa false
set_option maxHeartbeats 1000000
namespace Go.Proofs.YtpeenheeakhlgaaDoor
open Go.Ab Go.RowKit
set_option maxRecDepth 10000
attribute [local irreducible] Awp Ops OpsX Wanted Red ExOk Go.Ab.Fin ACall Rz RzL RzRows Enters ResOk RenV RenVL ArgV ArgVL

theorem entErr_form {e : Ent} (h : ¬ pathErr e.path = 0) : entErr e = pathErr e.path := by simp [entErr, h]
theorem entErr_rest {e : Ent} (h : pathErr e.path = 0) : entErr e = (if e.fold = true ∧ ¬ e.text = [] then 1 else if 300 < e.text.length then 2 else if isVer e.ver = true then 0 else 3) := by simp [entErr, h]
end Go.Proofs.YtpeenheeakhlgaaDoor
