/- Journals in the abstract layer, 7: of the reference: CheckJournal, TreeOf, SameCommits, SameJournal, SamePage. -/
import Derived.Test.YtkkfilkmkdnboaaDoorJo2
import Derived.Test.YtkkfilkmkdnboaaDoorSc
set_option linter.unusedSimpArgs false
set_option linter.unnecessarySimpa false
set_option linter.unusedVariables false
set_option maxHeartbeats 1000000
namespace Go.Proofs.YtkkfilkmkdnboaaDoor
open Go.Ab Go.RowKit
set_option maxRecDepth 10000
attribute [local irreducible] Awp Ops OpsX Wanted Red ExOk Go.Ab.Fin ACall Rz RzL RzRows Enters ResOk RenV RenVL ArgV ArgVL

theorem a_checkJ (j : Jou) (hb : JBig j) : AFn C.P 14 [.agg j.row] (.v (.int .i64 (jouE j))) := by
  have h1 := a_openR j hb
  have h2 : openTR (openT j) = .tup [treesAV (openT j).1, .v (.int .i64 (jouE j))] := by
    unfold openTR openT
    split <;> simp_all
  rw [h2] at h1
  generalize (openT j).1 = T at *
  generalize jouE j = E at *
  refine acall_intro Tryd.func14 rfl _ Tryd.ntmps14 (Nat.le_of_ble_eq_true rfl) _ Tryd.results14 0 rfl rfl ?_
  repeat' (first | refine walk ?_ | (first | (apply to_call Tryd.func30 rfl rfl; intro hIsFn; refine o_callp hIsFn (h1 ..) ?_)) | ((first | (apply awp_cond; rfl)); all_goals (intro hc; have hp := hc; first | (simp at hp; done) | ((try simp at hp); first | (exfalso; omega) | skip))) | (apply awp_cond_any; rfl))
  apply fin_int
  rfl
  rfl
theorem a_treeOf (j : Jou) (hb : JBig j) (hJ : JRight j) : AFn C.P 23 [.agg j.row] (entAV (nowT j)) := by
  have h1 := a_openR j hb
  have h2 : openT j = (j.base :: comsT j.base j.coms, 0) := by unfold openT; rw [if_pos (jright_iff.2 hJ)]
  have h3 := comsT_last hJ.run
  rw [h2] at h1
  have hl := comsT_len j.coms j.base
  have hlen := hJ.len
  have hlt : j.coms.length < (j.base :: comsT j.base j.coms).length := by simp [hl]
  have hr := getRow (f := treeRow) hlt
  have hx : (j.base :: comsT j.base j.coms)[j.coms.length] = nowT j := by
    rw [show nowT j = (comsR j.first j.base j.coms).1 from rfl, ← h3, List.getLast_eq_getElem]
    congr 1
    simp [hl]
  rw [hx] at hr
  have hll : ((j.base :: comsT j.base j.coms).map treeRow).length = j.coms.length + 1 := by simp [hl]
  have h1 : AFn C.P 30 [.agg j.row] (.tup [.sl false ((j.base :: comsT j.base j.coms).map treeRow), .v (.int .i64 0)]) := h1
  generalize (j.base :: comsT j.base j.coms).map treeRow = R at *
  generalize nowT j = U at *
  clear h3 hx h2
  refine acall_intro Tryd.func23 rfl _ Tryd.ntmps23 (Nat.le_of_ble_eq_true rfl) _ Tryd.results23 0 rfl rfl ?_
  repeat' (first | refine walk ?_ | (first | (apply opsx_val; apply ex_indexAddr_sl (i := j.coms.length); (case hx => rfl); (case hy => exact av_int (by omega)); (case hT => rfl); (case he => rfl); (case hE => rfl); (case hr => exact hr); (case hk => rfl); (case hN => exact nle rfl)) | (apply to_call Tryd.func30 rfl rfl; intro hIsFn; refine o_callp hIsFn (h1 ..) ?_)) | ((first | (apply awp_cond; rfl)); all_goals (intro hc; have hp := hc; first | (simp at hp; done) | ((try simp at hp); first | (exfalso; omega) | skip))) | (apply awp_cond_any; rfl))
  all_goals try (exfalso; omega)
  (refine f_pure (rs := [.tmp 2]) ?_; (repeat' (first | exact rzl_nil | apply rzl_cons | exact rz_pure rfl | exact rz_ex | exact z_os | apply rz_agg | apply rz_tup | apply rz_clo | apply rz_int | apply rz_bool | apply rz_str | refine z_eq ?_ | apply rz_sl)); all_goals trace_state)
theorem a_sameComs (a b : List Com) (ha : MBig a) (hb : MBig b) : AFn C.P 52 [comAV a, comAV b] (.v (.bool (decide (a = b)))) := by
  have hla := ha.len
  have hlb := hb.len
  have hma : (a.map Com.row).length = a.length := List.length_map ..
  have hmb : (b.map Com.row).length = b.length := List.length_map ..
  refine acall_intro Tryd.func52 rfl _ Tryd.ntmps52 (Nat.le_of_ble_eq_true rfl) _ Tryd.results52 0 rfl rfl ?_
  repeat' (first | refine walk ?_ | fail | ((first | (apply ops_split_t; rfl; rfl; exact nle rfl) | (apply ops_split_f; rfl; rfl; exact nle rfl) | (apply awp_cond; rfl)); all_goals (intro hc; have hp := hc; first | (simp at hp; done) | ((try simp at hp); first | (exfalso; omega) | skip))) | (apply awp_cond_any; rfl))
  · apply fin_bool
    rfl
    have hne : ¬ a = b := fun e => by subst e; simp at *
    simp [hne]
  have hab : a.length = b.length := by simp at *; omega
  (refine Awp.red (red_pure (ts := [(0, comAV a), (1, comAV b), (5, .v (.int .i64 ((0 : Nat) : Int)))]) ?_) ?_; ((repeat (first | exact tsok_nil | refine p_pure ?_ | refine p_eq ?_ ?_))))
  refine awp_loop (fun n σ => ∃ i : Nat, i ≤ a.length ∧ n = a.length - i ∧ (a.take i = b.take i) ∧ σ = ⟨[(0, comAV a), (1, comAV b), (5, .v (.int .i64 (i : Int)))], [], C.nh⟩) a.length ⟨0, Nat.zero_le _, rfl, rfl, rfl⟩ ?_
  rintro n σ ⟨i, hi, rfl, hsofar, rfl⟩
  by_cases hlt : i < a.length
  · have hlt2 : i < b.length := by omega
    have hr := getRow (f := Com.row) hlt
    have hr' := getRow (f := Com.row) hlt2
    have hnx := take_same hlt hlt2 hsofar
    have hsc := a_sameChanges a[i].chs b[i].chs (ha.each _ (List.getElem_mem _)).chs.len (hb.each _ (List.getElem_mem _)).chs.len
    have hin : a[i] = b[i] ↔ a[i].num = b[i].num ∧ a[i].key = b[i].key ∧ a[i].chs = b[i].chs := by
      obtain ⟨x1, x2, x3⟩ := a[i]
      obtain ⟨y1, y2, y3⟩ := b[i]
      simp
    have hne : ¬ a[i] = b[i] → ¬ a = b := fun h e => h (by subst e; rfl)
    generalize hD : decide (a[i].chs = b[i].chs) = D at *
    repeat' (first | refine walk ?_ | (first | (apply to_call Tryd.func81 rfl rfl; intro hIsFn; refine o_callf hIsFn (hsc ..) ?_; skip)) | ((first | (apply ops_split_t; rfl; rfl; exact nle rfl) | (apply ops_split_f; rfl; rfl; exact nle rfl) | (apply awp_cond; rfl)); all_goals (intro hc; have hp := hc; first | (simp at hp; done) | ((try simp at hp); first | (exfalso; omega) | skip))) | (apply awp_cond_any; rfl))
    all_goals try (exfalso; omega)
    all_goals first
      | (refine ⟨a.length - (i + 1), _, by omega, red_pure (ts := [(0, comAV a), (1, comAV b), (5, .v (.int .i64 ((i + 1 : Nat) : Int)))]) ?_, i + 1, by omega, rfl, (hnx (by rw [hin]; simp_all)), rfl⟩; ((repeat (first | exact tsok_nil | refine p_pure ?_ | refine p_eq ?_ ?_))))
      | (apply fin_bool; rfl; have hx := hne (by rw [hin]; simp_all); simp [hx])
  obtain rfl : i = a.length := by omega
  have he : a = b := by rw [List.take_length] at hsofar; rw [hsofar, hab, List.take_length]
  repeat' (first | refine walk ?_ | fail | ((first | (apply ops_split_t; rfl; rfl; exact nle rfl) | (apply ops_split_f; rfl; rfl; exact nle rfl) | (apply awp_cond; rfl)); all_goals (intro hc; have hp := hc; first | (simp at hp; done) | ((try simp at hp); first | (exfalso; omega) | skip))) | (apply awp_cond_any; rfl))
  all_goals try (exfalso; omega)
  apply fin_bool
  rfl
  simp [he]
theorem a_sameJou (a b : Jou) (ha : JBig a) (hb : JBig b) : AFn C.P 17 [.agg a.row, .agg b.row] (.v (.bool (decide (a = b)))) := by
  have h1 := a_sameEntries a.base b.base ha.base.len hb.base.len
  have h2 := a_sameComs a.coms b.coms ha.coms hb.coms
  have hin : decide (a = b) = (decide (a.base = b.base) && decide (a.first = b.first) && decide (a.coms = b.coms)) := by
    obtain ⟨x1, x2, x3⟩ := a
    obtain ⟨y1, y2, y3⟩ := b
    rw [Bool.eq_iff_iff]; simp [and_assoc]
  rw [hin]
  generalize decide (a.base = b.base) = D1 at *
  generalize decide (a.coms = b.coms) = D2 at *
  clear hin
  refine acall_intro Tryd.func17 rfl _ Tryd.ntmps17 (Nat.le_of_ble_eq_true rfl) _ Tryd.results17 0 rfl rfl ?_
  repeat' (first | refine walk ?_ | (first | (apply to_call Tryd.func29 rfl rfl; intro hIsFn; refine o_callf hIsFn (h1 ..) ?_; skip) | (apply to_call Tryd.func52 rfl rfl; intro hIsFn; refine o_callf hIsFn (h2 ..) ?_; skip)) | ((first | (apply ops_split_t; rfl; rfl; exact nle rfl) | (apply ops_split_f; rfl; rfl; exact nle rfl) | (apply awp_cond; rfl)); all_goals (intro hc; have hp := hc; first | (simp at hp; done) | ((try simp at hp); first | (exfalso; omega) | skip))) | (apply awp_cond_any; rfl))
  all_goals (apply fin_bool; rfl; simp_all)
theorem a_samePag (a b : Pag) (ha : PBig a) (hb : PBig b) : AFn C.P 20 [.agg a.row, .agg b.row] (.v (.bool (decide (a = b)))) := by
  have h1 := a_sameEntries a.tree b.tree ha.tree.len hb.tree.len
  have h2 := a_sameComs a.coms b.coms ha.coms hb.coms
  have hin : decide (a = b) = (decide (a.reset = b.reset) && decide (a.tree = b.tree) && decide (a.coms = b.coms) && decide (a.cur = b.cur) && decide (a.more = b.more)) := by
    obtain ⟨x1, x2, x3, x4, x5⟩ := a
    obtain ⟨y1, y2, y3, y4, y5⟩ := b
    rw [Bool.eq_iff_iff]; simp [and_assoc]
  rw [hin]
  generalize decide (a.tree = b.tree) = D1 at *
  generalize decide (a.coms = b.coms) = D2 at *
  clear hin
  refine acall_intro Tryd.func20 rfl _ Tryd.ntmps20 (Nat.le_of_ble_eq_true rfl) _ Tryd.results20 0 rfl rfl ?_
  repeat' (first | refine walk ?_ | (first | (apply to_call Tryd.func29 rfl rfl; intro hIsFn; refine o_callf hIsFn (h1 ..) ?_; skip) | (apply to_call Tryd.func52 rfl rfl; intro hIsFn; refine o_callf hIsFn (h2 ..) ?_; skip) | (refine o_beq ?_)) | ((first | (apply ops_split_t; rfl; rfl; exact nle rfl) | (apply ops_split_f; rfl; rfl; exact nle rfl) | (apply awp_cond; rfl)); all_goals (intro hc; have hp := hc; first | (simp at hp; done) | ((try simp at hp); first | (exfalso; omega) | skip))) | (apply awp_cond_any; rfl))
  all_goals (apply fin_bool; rfl; first | (simp_all; done) | (simp_all; cases a.more <;> cases b.more <;> rfl))
end Go.Proofs.YtkkfilkmkdnboaaDoor
