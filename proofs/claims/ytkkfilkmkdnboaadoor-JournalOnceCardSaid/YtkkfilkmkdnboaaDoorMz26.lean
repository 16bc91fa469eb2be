import Derived.Test.YtkkfilkmkdnboaaDoorMz24
import Derived.Test.YtkkfilkmkdnboaaDoorMz25
import Derived.Test.YtkkfilkmkdnboaaDoorMz19
/- Journals in the abstract layer, 7: of the reference: CheckJournal, TreeOf, SameCommits, SameJournal, SamePage. -/
set_option linter.unusedSimpArgs false
set_option linter.unnecessarySimpa false
set_option linter.unusedVariables false
set_option maxHeartbeats 1000000
namespace Go.Proofs.YtkkfilkmkdnboaaDoor
open Go.Ab Go.RowKit
set_option maxRecDepth 10000
attribute [local irreducible] Awp Ops OpsX Wanted Red ExOk Go.Ab.Fin ACall Rz RzL RzRows Enters ResOk RenV RenVL ArgV ArgVL

theorem a_sameComs (a b : List Com) (ha : MBig a) (hb : MBig b) : AFn C.P 52 [comAV a, comAV b] (.v (.bool (decide (a = b)))) := by
  have hla := ha.len
  have hlb := hb.len
  have hma : (a.map Com.row).length = a.length := List.length_map ..
  have hmb : (b.map Com.row).length = b.length := List.length_map ..
  refine acall_intro Tryd.func52 rfl _ Tryd.ntmps52 (Nat.le_of_ble_eq_true rfl) _ Tryd.results52 0 rfl rfl ?_
  repeat' (first | refine walk ?_ | fail | ((first | (apply ops_split_t; rfl; rfl; exact nle rfl) | (apply ops_split_f; rfl; rfl; exact nle rfl) | (apply awp_cond; rfl)); all_goals (intro hc; have hp := hc; first | (simp at hp; done) | ((try simp at hp); first | (exfalso; omega) | skip))) | (apply awp_cond_any; rfl))
  · apply fin_bool
    rfl
    have hne : ¬ a = b := fun e => by subst e; simp at *
    simp [hne]
  have hab : a.length = b.length := by simp at *; omega
  (refine Awp.red (red_pure (ts := [(0, comAV a), (1, comAV b), (5, .v (.int .i64 ((0 : Nat) : Int)))]) ?_) ?_; ((repeat (first | exact tsok_nil | refine p_pure ?_ | refine p_eq ?_ ?_))))
  refine awp_loop (fun n σ => ∃ i : Nat, i ≤ a.length ∧ n = a.length - i ∧ (a.take i = b.take i) ∧ σ = ⟨[(0, comAV a), (1, comAV b), (5, .v (.int .i64 (i : Int)))], [], C.nh⟩) a.length ⟨0, Nat.zero_le _, rfl, rfl, rfl⟩ ?_
  rintro n σ ⟨i, hi, rfl, hsofar, rfl⟩
  by_cases hlt : i < a.length
  · have hlt2 : i < b.length := by omega
    have hr := getRow (f := Com.row) hlt
    have hr' := getRow (f := Com.row) hlt2
    have hnx := take_same hlt hlt2 hsofar
    have hsc := a_sameChanges a[i].chs b[i].chs (ha.each _ (List.getElem_mem _)).chs.len (hb.each _ (List.getElem_mem _)).chs.len
    have hin : a[i] = b[i] ↔ a[i].num = b[i].num ∧ a[i].key = b[i].key ∧ a[i].chs = b[i].chs := by
      obtain ⟨x1, x2, x3⟩ := a[i]
      obtain ⟨y1, y2, y3⟩ := b[i]
      simp
    have hne : ¬ a[i] = b[i] → ¬ a = b := fun h e => h (by subst e; rfl)
    generalize hD : decide (a[i].chs = b[i].chs) = D at *
    repeat' (first | refine walk ?_ | (first | (apply to_call Tryd.func81 rfl rfl; intro hIsFn; refine o_callf hIsFn (hsc ..) ?_; skip)) | ((first | (apply ops_split_t; rfl; rfl; exact nle rfl) | (apply ops_split_f; rfl; rfl; exact nle rfl) | (apply awp_cond; rfl)); all_goals (intro hc; have hp := hc; first | (simp at hp; done) | ((try simp at hp); first | (exfalso; omega) | skip))) | (apply awp_cond_any; rfl))
    all_goals try (exfalso; omega)
    all_goals first
      | (refine ⟨a.length - (i + 1), _, by omega, red_pure (ts := [(0, comAV a), (1, comAV b), (5, .v (.int .i64 ((i + 1 : Nat) : Int)))]) ?_, i + 1, by omega, rfl, (hnx (by rw [hin]; simp_all)), rfl⟩; ((repeat (first | exact tsok_nil | refine p_pure ?_ | refine p_eq ?_ ?_))))
      | (apply fin_bool; rfl; have hx := hne (by rw [hin]; simp_all); simp [hx])
  obtain rfl : i = a.length := by omega
  have he : a = b := by rw [List.take_length] at hsofar; rw [hsofar, hab, List.take_length]
  repeat' (first | refine walk ?_ | fail | ((first | (apply ops_split_t; rfl; rfl; exact nle rfl) | (apply ops_split_f; rfl; rfl; exact nle rfl) | (apply awp_cond; rfl)); all_goals (intro hc; have hp := hc; first | (simp at hp; done) | ((try simp at hp); first | (exfalso; omega) | skip))) | (apply awp_cond_any; rfl))
  all_goals try (exfalso; omega)
  apply fin_bool
  rfl
  simp [he]
theorem a_sameJou (a b : Jou) (ha : JBig a) (hb : JBig b) : AFn C.P 17 [.agg a.row, .agg b.row] (.v (.bool (decide (a = b)))) := by
  have h1 := a_sameEntries a.base b.base ha.base.len hb.base.len
  have h2 := a_sameComs a.coms b.coms ha.coms hb.coms
  have hin : decide (a = b) = (decide (a.base = b.base) && decide (a.first = b.first) && decide (a.coms = b.coms)) := by
    obtain ⟨x1, x2, x3⟩ := a
    obtain ⟨y1, y2, y3⟩ := b
    rw [Bool.eq_iff_iff]; simp [and_assoc]
  rw [hin]
  generalize decide (a.base = b.base) = D1 at *
  generalize decide (a.coms = b.coms) = D2 at *
  clear hin
  refine acall_intro Tryd.func17 rfl _ Tryd.ntmps17 (Nat.le_of_ble_eq_true rfl) _ Tryd.results17 0 rfl rfl ?_
  repeat' (first | refine walk ?_ | (first | (apply to_call Tryd.func29 rfl rfl; intro hIsFn; refine o_callf hIsFn (h1 ..) ?_; skip) | (apply to_call Tryd.func52 rfl rfl; intro hIsFn; refine o_callf hIsFn (h2 ..) ?_; skip)) | ((first | (apply ops_split_t; rfl; rfl; exact nle rfl) | (apply ops_split_f; rfl; rfl; exact nle rfl) | (apply awp_cond; rfl)); all_goals (intro hc; have hp := hc; first | (simp at hp; done) | ((try simp at hp); first | (exfalso; omega) | skip))) | (apply awp_cond_any; rfl))
  all_goals (apply fin_bool; rfl; simp_all)
theorem a_samePag (a b : Pag) (ha : PBig a) (hb : PBig b) : AFn C.P 20 [.agg a.row, .agg b.row] (.v (.bool (decide (a = b)))) := by
  have h1 := a_sameEntries a.tree b.tree ha.tree.len hb.tree.len
  have h2 := a_sameComs a.coms b.coms ha.coms hb.coms
  have hin : decide (a = b) = (decide (a.reset = b.reset) && decide (a.tree = b.tree) && decide (a.coms = b.coms) && decide (a.cur = b.cur) && decide (a.more = b.more)) := by
    obtain ⟨x1, x2, x3, x4, x5⟩ := a
    obtain ⟨y1, y2, y3, y4, y5⟩ := b
    rw [Bool.eq_iff_iff]; simp [and_assoc]
  rw [hin]
  generalize decide (a.tree = b.tree) = D1 at *
  generalize decide (a.coms = b.coms) = D2 at *
  clear hin
  refine acall_intro Tryd.func20 rfl _ Tryd.ntmps20 (Nat.le_of_ble_eq_true rfl) _ Tryd.results20 0 rfl rfl ?_
  repeat' (first | refine walk ?_ | (first | (apply to_call Tryd.func29 rfl rfl; intro hIsFn; refine o_callf hIsFn (h1 ..) ?_; skip) | (apply to_call Tryd.func52 rfl rfl; intro hIsFn; refine o_callf hIsFn (h2 ..) ?_; skip) | (refine o_beq ?_)) | ((first | (apply ops_split_t; rfl; rfl; exact nle rfl) | (apply ops_split_f; rfl; rfl; exact nle rfl) | (apply awp_cond; rfl)); all_goals (intro hc; have hp := hc; first | (simp at hp; done) | ((try simp at hp); first | (exfalso; omega) | skip))) | (apply awp_cond_any; rfl))
  all_goals (apply fin_bool; rfl; first | (simp_all; done) | (simp_all; cases a.more <;> cases b.more <;> rfl))
end Go.Proofs.YtkkfilkmkdnboaaDoor

/- Journals in the abstract layer, 4: Commit. -/
set_option linter.unusedSimpArgs false
set_option linter.unnecessarySimpa false
set_option linter.unusedVariables false
set_option maxHeartbeats 1000000
namespace Go.Proofs.YtkkfilkmkdnboaaDoor
open Go.Ab Go.RowKit
set_option maxRecDepth 10000
attribute [local irreducible] Awp Ops OpsX Wanted Red ExOk Go.Ab.Fin ACall Rz RzL RzRows Enters ResOk RenV RenVL ArgV ArgVL

theorem a_commitC (c : Com) (key : Str) : AFn C.P 46 [.agg c.row, .fp [[.v (str key)]] 0 0] (.v (.bool (isK key c))) := by
  refine acall_intro Tryd.func46 rfl _ Tryd.ntmps46 (Nat.le_of_ble_eq_true rfl) _ Tryd.results46 0 rfl rfl ?_
  repeat' (first | refine walk ?_ | fail | ((first | (apply awp_cond; rfl)); all_goals (intro hc; have hp := hc; first | (simp at hp; done) | ((try simp at hp); first | (exfalso; omega) | skip))) | (apply awp_cond_any; rfl))
  all_goals (apply fin_bool; rfl; rfl)
theorem a_indexM (p : Com → Bool) (g : FuncId) (hg : IsFn C.P g) (cap : List AV) (hcap : AV.pure.pureL cap = true) (l : List (Com)) (hl : l.length ≤ 1000000) (hc : ∀ s, s ∈ l → AFn C.P g ((AV.agg (Com.row s)) :: cap) (.v (.bool (p s)))) :
    AFn C.P 45 [.sl false (l.map Com.row), .clo (.func g) [] cap] (.v (.int .i64 (idxOf p l))) := by
  refine acall_intro Tryd.func45 rfl _ Tryd.ntmps45 (Nat.le_of_ble_eq_true rfl) _ Tryd.results45 0 rfl rfl ?_
  repeat' (first | refine walk ?_ | fail | ((first | (apply awp_cond; rfl)); all_goals (intro hc; have hp := hc; first | (simp at hp; done) | ((try simp at hp); first | (exfalso; omega) | skip))) | (apply awp_cond_any; rfl))
  (refine Awp.red (red_pure (ts := [(0, .sl false (l.map Com.row)), (1, .clo (.func g) [] cap), (7, .v (.int .i64 l.length)), (8, .v (.int .i64 ((0 : Nat) : Int)))]) ?_) ?_; ((repeat (first | exact tsok_nil | refine p_pure ?_ | refine p_eq ?_ ?_))))
  all_goals try (rw [List.length_map]; done)
  refine awp_loop (fun n σ => ∃ i : Nat, i ≤ l.length ∧ n = l.length - i ∧ (∀ s, s ∈ l.take i → p s = false) ∧ σ = ⟨[(0, .sl false (l.map Com.row)), (1, .clo (.func g) [] cap), (7, .v (.int .i64 l.length)), (8, .v (.int .i64 (i : Int)))], [], C.nh⟩) l.length ⟨0, Nat.zero_le _, rfl, (by simp), rfl⟩ ?_
  rintro n σ ⟨i, hi, rfl, hsofar, rfl⟩
  by_cases hlt : i < l.length
  · have hr := getRow (f := Com.row) hlt
    have hci := hc l[i] (List.getElem_mem _)
    repeat' (first | refine walk ?_ | (first | (apply opsx_val; apply ex_callv []; rfl; exact hg; exact hci; (case hz => exact rzl_cons (rz_pure rfl) (rzl_self hcap)); (case hfl => rfl); (case hN => exact nle rfl))) | ((first | (apply awp_cond; rfl)); all_goals (intro hc; have hp := hc; first | (simp at hp; done) | ((try simp at hp); first | (exfalso; omega) | skip))) | (apply awp_cond_any; rfl))
    all_goals try (exfalso; omega)
    · apply fin_int
      rfl
      exact (idxOf_at hlt hsofar hp).symm
    · refine ⟨l.length - (i + 1), _, by omega, red_pure (ts := [(0, .sl false (l.map Com.row)), (1, .clo (.func g) [] cap), (7, .v (.int .i64 l.length)), (8, .v (.int .i64 ((i + 1 : Nat) : Int)))]) ?_, i + 1, by omega, rfl, mem_take_succ hlt hsofar hp, rfl⟩; ((repeat (first | exact tsok_nil | refine p_pure ?_ | refine p_eq ?_ ?_)))
  obtain rfl : i = l.length := by omega
  repeat' (first | refine walk ?_ | fail | ((first | (apply awp_cond; rfl)); all_goals (intro hc; have hp := hc; first | (simp at hp; done) | ((try simp at hp); first | (exfalso; omega) | skip))) | (apply awp_cond_any; rfl))
  all_goals try (exfalso; omega)
  apply fin_int
  rfl
  exact (idxOf_none fun s hs => hsofar s (by rw [List.take_length]; exact hs)).symm
theorem a_idxKey (l : List Com) (key : Str) (hl : l.length ≤ 1000000) : AFn C.P 45 [comAV l, .clo (.func 46) [] [.fp [[.v (str key)]] 0 0]] (.v (.int .i64 (idxOf (isK key) l))) :=
  a_indexM (isK key) 46 (isFn_of Tryd.func46 rfl rfl) [.fp [[.v (str key)]] 0 0] rfl l hl (fun c _ => a_commitC c key)
def resJ (r : Jou × Int × Int) : AV := .tup [.agg r.1.row, .v (.int .i64 r.2.1), .v (.int .i64 r.2.2)]
theorem push_rows {d c : Com} {r : List Com} {x : List AV} {n n0 : Nat} (hx : x = c.row) (hn0 : n0 = r.length + 1) (hn : n = r.length + 1) : ((((d :: r).map Com.row).take n0 ++ [x]).drop 1).take n = (((d :: r) ++ [c]).drop 1).map Com.row := by
  subst hx; subst hn; subst hn0
  rw [List.take_of_length_le (l := (d :: r).map Com.row) (by simp)]
  simp [List.take_of_length_le]
theorem a_commit_push1 (j : Jou) (key : Str) (l : List Chg) (hb : JBig j) (hcb : CBig l) (hJ : JRight j) (hkk : isKey key = true) (hf : j.coms.find? (isK key) = none) (hl0 : ¬ l = []) (hbig : ¬ 1000000 < nextN j) (hz : (allT (nextN j) (nowT j) l).2.2 = 0) (h31 : ¬ 30 < j.coms.length + 1) :
    AFn C.P 13 [.agg j.row, .v (str key), chgAV l] (resJ (pushJ j ⟨nextN j, key, l⟩, nextN j, 0)) := by
  have hll := hcb.len
  have hml : (l.map Chg.row).length = l.length := List.length_map ..
  have hmj : (j.coms.map Com.row).length = j.coms.length := List.length_map ..
  have ho := a_open j hb
  rw [open_ok (jright_iff.2 hJ)] at ho
  have hk := a_isKey key
  rw [hkk] at hk
  have hlen := hJ.len
  have hN := hJ.now
  have hlast := a_jlast j (nowT j) hJ
  have hcl := a_cloned j.coms (by omega) (fun c hc => by have := comsR_few hJ.base hJ.run c hc; omega)
  have hce := a_cloneEF j.base (by have := hJ.base.len; omega)
  have hidx := a_idxKey j.coms key (by omega)
  have hi : idxOf (isK key) j.coms = -1 := by
    rcases idxOf_find (isK key) j.coms with ⟨hi, _⟩ | ⟨k, hkl, hi, hf2⟩
    · exact hi
    · rw [hf] at hf2; cases hf2
  rw [hi] at hidx
  have hLb : 0 ≤ lastN j ∧ lastN j ≤ 1000030 := by have := hJ.lo; have := hJ.hi; unfold lastN; omega
  have hall := a_all (nowT j) l (nextN j) hN.big hcb
  have hl1 : ¬ l.length = 0 := fun e => hl0 (List.eq_nil_of_length_eq_zero e)
  have hcc := a_cloneCF l (by have := allT_few hN hz; omega)
  have hp31 : pushJ j ⟨nextN j, key, l⟩ = if 30 < j.coms.length + 1 then ⟨match j.coms with | [] => j.base | d :: _ => (allT j.first j.base d.chs).1, j.first + 1, (j.coms ++ [(⟨nextN j, key, l⟩ : Com)]).drop 1⟩ else ⟨j.base, j.first, j.coms ++ [(⟨nextN j, key, l⟩ : Com)]⟩ := rfl
  generalize pushJ j ⟨nextN j, key, l⟩ = PJ at *
  generalize allT (nextN j) (nowT j) l = A at *
  obtain ⟨t1, n1, e1⟩ := A
  have hz : e1 = 0 := hz
  subst hz
  generalize hnx : nextN j = NX at *
  have hnx2 : NX = lastN j + 1 := hnx.symm
  clear hnx
  generalize lastN j = LN at *
  subst hnx2
  generalize nowT j = U at *
  rw [if_neg h31] at hp31
  subst hp31
  refine acall_intro Tryd.func13 rfl _ Tryd.ntmps13 (Nat.le_of_ble_eq_true rfl) _ Tryd.results13 0 rfl rfl ?_
  (repeat apply awp_seq); apply awp_region; (repeat' (first | apply ops_free | refine o_mv ?_ | refine o_as ?_ | refine o_ld ?_ | refine o_fa ?_ | refine o_bi ?_ | refine o_ln ?_ | refine o_ia ?_ | refine o_no ?_ | refine o_ex ?_ | refine o_fn ?_ | refine o_nc ?_ | refine o_bu ?_ | refine o_al ?_ | refine o_bx ?_ | refine o_sto ?_ | (first | fail) | refine r_nil ?_)); show Awp _ _ _ _ _
  (refine Awp.red (red_freeze 0 rfl ?_) ?_; (intro row hrow; obtain rfl := List.mem_singleton.1 hrow; rfl); refine Awp.red (red_fp 3 0 rfl rfl (Nat.le_of_ble_eq_true rfl)) ?_)
  (refine Awp.red (red_freeze 1 rfl ?_) ?_; (intro row hrow; obtain rfl := List.mem_singleton.1 hrow; rfl); refine Awp.red (red_fp 4 1 rfl rfl (Nat.le_of_ble_eq_true rfl)) ?_)
  repeat' (first | refine walk ?_ | (first | (apply to_call Tryd.func41 rfl rfl; intro hIsFn; refine o_callp hIsFn (ho ..) ?_) | (apply to_call Tryd.func42 rfl rfl; intro hIsFn; refine o_callf hIsFn (hk ..) ?_; skip) | (apply to_call Tryd.func43 rfl rfl; intro hIsFn; refine o_callp hIsFn (hce ..) ?_) | (apply to_call Tryd.func44 rfl rfl; intro hIsFn; refine o_callo ([]) hIsFn (hcl ..) ?_) | (apply to_call Tryd.func45 rfl rfl; intro hIsFn; refine o_callf hIsFn (hidx ..) ?_; skip) | (apply to_call Tryd.func47 rfl rfl; intro hIsFn; refine o_callf hIsFn (hlast ..) ?_; skip) | (apply to_call Tryd.func48 rfl rfl; intro hIsFn; refine o_callp hIsFn (hall ..) ?_) | (apply to_call Tryd.func49 rfl rfl; intro hIsFn; refine o_callp hIsFn (hcc ..) ?_) | (refine o_fzl ?_) | (refine o_appo ?_)) | ((first | (apply awp_cond; rfl)); all_goals (intro hc; have hp := hc; first | (simp at hp; done) | ((try simp at hp); first | (exfalso; omega) | skip))) | (apply awp_cond_any; rfl))
  (all_goals try (exfalso; first | omega | contradiction))
  all_goals ((refine f_pure (rs := [.cell 6 25, .tmp 7, .tmp 8]) ?_; (repeat' (first | exact rzl_nil | apply rzl_cons | exact rz_pure rfl | exact rz_ex | exact z_os | apply rz_agg | apply rz_tup | apply rz_clo | apply rz_int | apply rz_bool | apply rz_str | refine z_eq ?_ | apply rz_sl)); all_goals (rw [List.take_of_length_le (by simp), List.map_append]; rfl)))
theorem a_commit_push2 (j : Jou) (key : Str) (l : List Chg) (hb : JBig j) (hcb : CBig l) (hJ : JRight j) (hkk : isKey key = true) (hf : j.coms.find? (isK key) = none) (hl0 : ¬ l = []) (hbig : ¬ 1000000 < nextN j) (hz : (allT (nextN j) (nowT j) l).2.2 = 0) (h31 : 30 < j.coms.length + 1) :
    AFn C.P 13 [.agg j.row, .v (str key), chgAV l] (resJ (pushJ j ⟨nextN j, key, l⟩, nextN j, 0)) := by
  have hll := hcb.len
  have hml : (l.map Chg.row).length = l.length := List.length_map ..
  have hmj : (j.coms.map Com.row).length = j.coms.length := List.length_map ..
  have ho := a_open j hb
  rw [open_ok (jright_iff.2 hJ)] at ho
  have hk := a_isKey key
  rw [hkk] at hk
  have hlen := hJ.len
  have hN := hJ.now
  have hlast := a_jlast j (nowT j) hJ
  have hcl := a_cloned j.coms (by omega) (fun c hc => by have := comsR_few hJ.base hJ.run c hc; omega)
  have hce := a_cloneEF j.base (by have := hJ.base.len; omega)
  have hidx := a_idxKey j.coms key (by omega)
  have hi : idxOf (isK key) j.coms = -1 := by
    rcases idxOf_find (isK key) j.coms with ⟨hi, _⟩ | ⟨k, hkl, hi, hf2⟩
    · exact hi
    · rw [hf] at hf2; cases hf2
  rw [hi] at hidx
  have hLb : 0 ≤ lastN j ∧ lastN j ≤ 1000030 := by have := hJ.lo; have := hJ.hi; unfold lastN; omega
  have hall := a_all (nowT j) l (nextN j) hN.big hcb
  have hl1 : ¬ l.length = 0 := fun e => hl0 (List.eq_nil_of_length_eq_zero e)
  have hcc := a_cloneCF l (by have := allT_few hN hz; omega)
  have hp31 : pushJ j ⟨nextN j, key, l⟩ = if 30 < j.coms.length + 1 then ⟨match j.coms with | [] => j.base | d :: _ => (allT j.first j.base d.chs).1, j.first + 1, (j.coms ++ [(⟨nextN j, key, l⟩ : Com)]).drop 1⟩ else ⟨j.base, j.first, j.coms ++ [(⟨nextN j, key, l⟩ : Com)]⟩ := rfl
  generalize pushJ j ⟨nextN j, key, l⟩ = PJ at *
  generalize allT (nextN j) (nowT j) l = A at *
  obtain ⟨t1, n1, e1⟩ := A
  have hz : e1 = 0 := hz
  subst hz
  generalize hnx : nextN j = NX at *
  have hnx2 : NX = lastN j + 1 := hnx.symm
  clear hnx
  generalize lastN j = LN at *
  subst hnx2
  generalize nowT j = U at *
  rw [if_pos h31] at hp31
  subst hp31
  obtain ⟨jb, jf, jc⟩ := j
  cases jc with
  | nil => exact absurd h31 (by simp)
  | cons d r =>
    obtain ⟨q1, q2, -⟩ := comsR_cons hJ.run
    have q4 := (comErr_zero q1).1
    have hall2 := a_all jb d.chs jf hJ.base.big (hb.coms.each d (List.mem_cons_self ..)).chs
    have hjl := hJ.lo
    have hjh := hJ.hi
    dsimp only at *
    have hlen2 : r.length + 1 ≤ 30 := by simpa using hlen
    have h31b : 30 < r.length + 1 + 1 := by simpa using h31
    have hjl3 : 1 ≤ (Jou.mk jb jf (d :: r)).first := hjl
    have hjh3 : (Jou.mk jb jf (d :: r)).first ≤ 1000000 := hjh
    rw [q4] at q2
    generalize allT jf jb d.chs = T2 at *
    obtain ⟨t2, n2, e2⟩ := T2
    have q2 : e2 = 0 := q2
    subst q2
    clear hJ hb hi hf q1 q4
    refine acall_intro Tryd.func13 rfl _ Tryd.ntmps13 (Nat.le_of_ble_eq_true rfl) _ Tryd.results13 0 rfl rfl ?_
    (repeat apply awp_seq); apply awp_region; (repeat' (first | apply ops_free | refine o_mv ?_ | refine o_as ?_ | refine o_ld ?_ | refine o_fa ?_ | refine o_bi ?_ | refine o_ln ?_ | refine o_ia ?_ | refine o_no ?_ | refine o_ex ?_ | refine o_fn ?_ | refine o_nc ?_ | refine o_bu ?_ | refine o_al ?_ | refine o_bx ?_ | refine o_sto ?_ | (first | fail) | refine r_nil ?_)); show Awp _ _ _ _ _
    (refine Awp.red (red_freeze 0 rfl ?_) ?_; (intro row hrow; obtain rfl := List.mem_singleton.1 hrow; rfl); refine Awp.red (red_fp 3 0 rfl rfl (Nat.le_of_ble_eq_true rfl)) ?_)
    (refine Awp.red (red_freeze 1 rfl ?_) ?_; (intro row hrow; obtain rfl := List.mem_singleton.1 hrow; rfl); refine Awp.red (red_fp 4 1 rfl rfl (Nat.le_of_ble_eq_true rfl)) ?_)
    repeat' (first | refine walk ?_ | (first | (apply to_call Tryd.func41 rfl rfl; intro hIsFn; refine o_callp hIsFn (ho ..) ?_) | (apply to_call Tryd.func42 rfl rfl; intro hIsFn; refine o_callf hIsFn (hk ..) ?_; skip) | (apply to_call Tryd.func43 rfl rfl; intro hIsFn; refine o_callp hIsFn (hce ..) ?_) | (apply to_call Tryd.func44 rfl rfl; intro hIsFn; refine o_callo ([]) hIsFn (hcl ..) ?_) | (apply to_call Tryd.func45 rfl rfl; intro hIsFn; refine o_callf hIsFn (hidx ..) ?_; skip) | (apply to_call Tryd.func47 rfl rfl; intro hIsFn; refine o_callf hIsFn (hlast ..) ?_; skip) | (apply to_call Tryd.func48 rfl rfl; intro hIsFn; refine o_callp hIsFn (hall ..) ?_) | (apply to_call Tryd.func49 rfl rfl; intro hIsFn; refine o_callp hIsFn (hcc ..) ?_) | (refine o_fzl ?_) | (refine o_appo ?_) | (refine o_ixo ?_) | (refine o_slo ?_) | (apply to_call Tryd.func48 rfl rfl; intro hIsFn; refine o_callp hIsFn (hall2 ..) ?_)) | ((first | (apply awp_cond; rfl)); all_goals (intro hc; have hp := hc; first | (simp at hp; done) | ((try simp at hp); first | (exfalso; omega) | skip))) | (apply awp_cond_any; rfl))
    (all_goals try (exfalso; first | omega | contradiction))
    all_goals ((refine f_pure (rs := [.cell 6 25, .tmp 7, .tmp 8]) ?_; (repeat' (first | (exact z_osd (push_rows (n0 := (d :: r).length) rfl (by simp) (by simp)) (pures_map fun _ => rfl) (by simp; try omega)) | exact rzl_nil | apply rzl_cons | exact rz_pure rfl | exact rz_ex | exact z_os | apply rz_agg | apply rz_tup | apply rz_clo | apply rz_int | apply rz_bool | apply rz_str | refine z_eq ?_ | apply rz_sl)); all_goals trace_state))
theorem a_commit_push (j : Jou) (key : Str) (l : List Chg) (hb : JBig j) (hcb : CBig l) (hJ : JRight j) (hkk : isKey key = true) (hf : j.coms.find? (isK key) = none) (hl0 : ¬ l = []) (hbig : ¬ 1000000 < nextN j) (hz : (allT (nextN j) (nowT j) l).2.2 = 0) :
    AFn C.P 13 [.agg j.row, .v (str key), chgAV l] (resJ (pushJ j ⟨nextN j, key, l⟩, nextN j, 0)) := by
  by_cases h31 : 30 < j.coms.length + 1
  · exact a_commit_push2 j key l hb hcb hJ hkk hf hl0 hbig hz h31
  · exact a_commit_push1 j key l hb hcb hJ hkk hf hl0 hbig hz h31
theorem a_commit (j : Jou) (key : Str) (l : List Chg) (hb : JBig j) (hcb : CBig l) : AFn C.P 13 [.agg j.row, .v (str key), chgAV l] (resJ (commitR j key l)) := by
  have ho := a_open j hb
  have hk := a_isKey key
  have hll := hcb.len
  have hml : (l.map Chg.row).length = l.length := List.length_map ..
  have hmj : (j.coms.map Com.row).length = j.coms.length := List.length_map ..
  by_cases hz : jouE j = 0
  · rw [open_ok hz] at ho
    have hJ := jright_iff.1 hz
    have hlen := hJ.len
    have hE : commitR j key l = commitW j key l := by unfold commitR; rw [if_neg (by simp [hz])]
    have hN := hJ.now
    have hlast := a_jlast j (nowT j) hJ
    have hcl := a_cloned j.coms (by omega) (fun c hc => by have := comsR_few hJ.base hJ.run c hc; omega)
    have hce := a_cloneEF j.base (by have := hJ.base.len; omega)
    rw [hE]
    unfold commitW
    cases hkk : isKey key with
    | false =>
      rw [hkk] at hk
      rw [if_pos rfl]
      clear hE hlast hcl hce
      generalize nowT j = U at *
      refine acall_intro Tryd.func13 rfl _ Tryd.ntmps13 (Nat.le_of_ble_eq_true rfl) _ Tryd.results13 0 rfl rfl ?_
      repeat' (first | refine walk ?_ | (first | (apply to_call Tryd.func41 rfl rfl; intro hIsFn; refine o_callp hIsFn (ho ..) ?_) | (apply to_call Tryd.func42 rfl rfl; intro hIsFn; refine o_callf hIsFn (hk ..) ?_; skip)) | ((first | (apply awp_cond; rfl)); all_goals (intro hc; have hp := hc; first | (simp at hp; done) | ((try simp at hp); first | (exfalso; omega) | skip))) | (apply awp_cond_any; rfl))
      all_goals try (exfalso; omega)
      all_goals ((refine f_pure (rs := [.cell 6 25, .tmp 7, .tmp 8]) ?_; (repeat' (first | exact rzl_nil | apply rzl_cons | exact rz_pure rfl | exact rz_ex | exact z_os | apply rz_agg | apply rz_tup | apply rz_clo | apply rz_int | apply rz_bool | apply rz_str | refine z_eq ?_ | apply rz_sl)); all_goals trace_state))
    | true =>
      rw [hkk] at hk
      rw [if_neg (by decide)]
      have hidx := a_idxKey j.coms key (by omega)
      rcases idxOf_find (isK key) j.coms with ⟨hi, hf⟩ | ⟨k, hkl, hi, hf⟩
      · rw [hf]
        rw [hi] at hidx
        simp only
        have hidx2 := trivial
        have hLb : 0 ≤ lastN j ∧ lastN j ≤ 1000030 := by have := hJ.lo; have := hJ.hi; unfold lastN; omega
        have hall := a_all (nowT j) l (nextN j) hN.big hcb
        have hnx : nextN j = lastN j + 1 := rfl
        have hpush := a_commit_push j key l hb hcb hJ hkk hf
        generalize pushJ j ⟨nextN j, key, l⟩ = PJ at *
        generalize hAA : allT (nextN j) (nowT j) l = A at *
        rw [hnx] at *
        clear hE
        by_cases hl0 : l = []
        · subst hl0
          rw [if_pos rfl]
          generalize nowT j = U at *
          generalize lastN j = LN at *
          refine acall_intro Tryd.func13 rfl _ Tryd.ntmps13 (Nat.le_of_ble_eq_true rfl) _ Tryd.results13 0 rfl rfl ?_
          (repeat apply awp_seq); apply awp_region; (repeat' (first | apply ops_free | refine o_mv ?_ | refine o_as ?_ | refine o_ld ?_ | refine o_fa ?_ | refine o_bi ?_ | refine o_ln ?_ | refine o_ia ?_ | refine o_no ?_ | refine o_ex ?_ | refine o_fn ?_ | refine o_nc ?_ | refine o_bu ?_ | refine o_al ?_ | refine o_bx ?_ | refine o_sto ?_ | (first | fail) | refine r_nil ?_)); show Awp _ _ _ _ _
          (refine Awp.red (red_freeze 0 rfl ?_) ?_; (intro row hrow; obtain rfl := List.mem_singleton.1 hrow; rfl); refine Awp.red (red_fp 3 0 rfl rfl (Nat.le_of_ble_eq_true rfl)) ?_)
          (refine Awp.red (red_freeze 1 rfl ?_) ?_; (intro row hrow; obtain rfl := List.mem_singleton.1 hrow; rfl); refine Awp.red (red_fp 4 1 rfl rfl (Nat.le_of_ble_eq_true rfl)) ?_)
          repeat' (first | refine walk ?_ | (first | (apply to_call Tryd.func41 rfl rfl; intro hIsFn; refine o_callp hIsFn (ho ..) ?_) | (apply to_call Tryd.func42 rfl rfl; intro hIsFn; refine o_callf hIsFn (hk ..) ?_; skip) | (apply to_call Tryd.func43 rfl rfl; intro hIsFn; refine o_callp hIsFn (hce ..) ?_) | (apply to_call Tryd.func44 rfl rfl; intro hIsFn; refine o_callo ([]) hIsFn (hcl ..) ?_) | (apply to_call Tryd.func45 rfl rfl; intro hIsFn; refine o_callf hIsFn (hidx ..) ?_; skip) | (apply to_call Tryd.func47 rfl rfl; intro hIsFn; refine o_callf hIsFn (hlast ..) ?_; skip) | (apply to_call Tryd.func48 rfl rfl; intro hIsFn; refine o_callp hIsFn (hall ..) ?_) | fail) | ((first | (apply awp_cond; rfl)); all_goals (intro hc; have hp := hc; first | (simp at hp; done) | ((try simp at hp); first | (exfalso; omega) | skip))) | (apply awp_cond_any; rfl))
          (all_goals try (exfalso; first | omega | contradiction))
          all_goals ((refine f_pure (rs := [.cell 6 25, .tmp 7, .tmp 8]) ?_; (repeat' (first | exact rzl_nil | apply rzl_cons | exact rz_pure rfl | exact rz_ex | exact z_os | apply rz_agg | apply rz_tup | apply rz_clo | apply rz_int | apply rz_bool | apply rz_str | refine z_eq ?_ | apply rz_sl)); all_goals trace_state))
        · rw [if_neg hl0]
          have hl1 : ¬ l.length = 0 := fun e => hl0 (List.eq_nil_of_length_eq_zero e)
          by_cases hbig : 1000000 < lastN j + 1
          · rw [if_pos hbig]
            generalize nowT j = U at *
            generalize lastN j = LN at *
            refine acall_intro Tryd.func13 rfl _ Tryd.ntmps13 (Nat.le_of_ble_eq_true rfl) _ Tryd.results13 0 rfl rfl ?_
            (repeat apply awp_seq); apply awp_region; (repeat' (first | apply ops_free | refine o_mv ?_ | refine o_as ?_ | refine o_ld ?_ | refine o_fa ?_ | refine o_bi ?_ | refine o_ln ?_ | refine o_ia ?_ | refine o_no ?_ | refine o_ex ?_ | refine o_fn ?_ | refine o_nc ?_ | refine o_bu ?_ | refine o_al ?_ | refine o_bx ?_ | refine o_sto ?_ | (first | fail) | refine r_nil ?_)); show Awp _ _ _ _ _
            (refine Awp.red (red_freeze 0 rfl ?_) ?_; (intro row hrow; obtain rfl := List.mem_singleton.1 hrow; rfl); refine Awp.red (red_fp 3 0 rfl rfl (Nat.le_of_ble_eq_true rfl)) ?_)
            (refine Awp.red (red_freeze 1 rfl ?_) ?_; (intro row hrow; obtain rfl := List.mem_singleton.1 hrow; rfl); refine Awp.red (red_fp 4 1 rfl rfl (Nat.le_of_ble_eq_true rfl)) ?_)
            repeat' (first | refine walk ?_ | (first | (apply to_call Tryd.func41 rfl rfl; intro hIsFn; refine o_callp hIsFn (ho ..) ?_) | (apply to_call Tryd.func42 rfl rfl; intro hIsFn; refine o_callf hIsFn (hk ..) ?_; skip) | (apply to_call Tryd.func43 rfl rfl; intro hIsFn; refine o_callp hIsFn (hce ..) ?_) | (apply to_call Tryd.func44 rfl rfl; intro hIsFn; refine o_callo ([]) hIsFn (hcl ..) ?_) | (apply to_call Tryd.func45 rfl rfl; intro hIsFn; refine o_callf hIsFn (hidx ..) ?_; skip) | (apply to_call Tryd.func47 rfl rfl; intro hIsFn; refine o_callf hIsFn (hlast ..) ?_; skip) | (apply to_call Tryd.func48 rfl rfl; intro hIsFn; refine o_callp hIsFn (hall ..) ?_) | fail) | ((first | (apply awp_cond; rfl)); all_goals (intro hc; have hp := hc; first | (simp at hp; done) | ((try simp at hp); first | (exfalso; omega) | skip))) | (apply awp_cond_any; rfl))
            (all_goals try (exfalso; first | omega | contradiction))
            all_goals ((refine f_pure (rs := [.cell 6 25, .tmp 7, .tmp 8]) ?_; (repeat' (first | exact rzl_nil | apply rzl_cons | exact rz_pure rfl | exact rz_ex | exact z_os | apply rz_agg | apply rz_tup | apply rz_clo | apply rz_int | apply rz_bool | apply rz_str | refine z_eq ?_ | apply rz_sl)); all_goals trace_state))
          · rw [if_neg hbig]
            obtain ⟨t1, n1, e1⟩ := A
            by_cases he1 : e1 = 0
            · subst he1
              rw [if_neg (by simp)]
              exact hpush hl0 hbig rfl
            · rw [if_pos he1]
              generalize nowT j = U at *
              generalize lastN j = LN at *
              refine acall_intro Tryd.func13 rfl _ Tryd.ntmps13 (Nat.le_of_ble_eq_true rfl) _ Tryd.results13 0 rfl rfl ?_
              (repeat apply awp_seq); apply awp_region; (repeat' (first | apply ops_free | refine o_mv ?_ | refine o_as ?_ | refine o_ld ?_ | refine o_fa ?_ | refine o_bi ?_ | refine o_ln ?_ | refine o_ia ?_ | refine o_no ?_ | refine o_ex ?_ | refine o_fn ?_ | refine o_nc ?_ | refine o_bu ?_ | refine o_al ?_ | refine o_bx ?_ | refine o_sto ?_ | (first | fail) | refine r_nil ?_)); show Awp _ _ _ _ _
              (refine Awp.red (red_freeze 0 rfl ?_) ?_; (intro row hrow; obtain rfl := List.mem_singleton.1 hrow; rfl); refine Awp.red (red_fp 3 0 rfl rfl (Nat.le_of_ble_eq_true rfl)) ?_)
              (refine Awp.red (red_freeze 1 rfl ?_) ?_; (intro row hrow; obtain rfl := List.mem_singleton.1 hrow; rfl); refine Awp.red (red_fp 4 1 rfl rfl (Nat.le_of_ble_eq_true rfl)) ?_)
              repeat' (first | refine walk ?_ | (first | (apply to_call Tryd.func41 rfl rfl; intro hIsFn; refine o_callp hIsFn (ho ..) ?_) | (apply to_call Tryd.func42 rfl rfl; intro hIsFn; refine o_callf hIsFn (hk ..) ?_; skip) | (apply to_call Tryd.func43 rfl rfl; intro hIsFn; refine o_callp hIsFn (hce ..) ?_) | (apply to_call Tryd.func44 rfl rfl; intro hIsFn; refine o_callo ([]) hIsFn (hcl ..) ?_) | (apply to_call Tryd.func45 rfl rfl; intro hIsFn; refine o_callf hIsFn (hidx ..) ?_; skip) | (apply to_call Tryd.func47 rfl rfl; intro hIsFn; refine o_callf hIsFn (hlast ..) ?_; skip) | (apply to_call Tryd.func48 rfl rfl; intro hIsFn; refine o_callp hIsFn (hall ..) ?_) | fail) | ((first | (apply awp_cond; rfl)); all_goals (intro hc; have hp := hc; first | (simp at hp; done) | ((try simp at hp); first | (exfalso; omega) | skip))) | (apply awp_cond_any; rfl))
              (all_goals try (exfalso; first | omega | contradiction))
              all_goals ((refine f_pure (rs := [.cell 6 25, .tmp 7, .tmp 8]) ?_; (repeat' (first | exact rzl_nil | apply rzl_cons | exact rz_pure rfl | exact rz_ex | exact z_os | apply rz_agg | apply rz_tup | apply rz_clo | apply rz_int | apply rz_bool | apply rz_str | refine z_eq ?_ | apply rz_sl)); all_goals trace_state))
      · rw [hf]
        rw [hi] at hidx
        have hr := getRow (f := Com.row) hkl
        simp only
        clear hE
        generalize nowT j = U at *
        refine acall_intro Tryd.func13 rfl _ Tryd.ntmps13 (Nat.le_of_ble_eq_true rfl) _ Tryd.results13 0 rfl rfl ?_
        (repeat apply awp_seq); apply awp_region; (repeat' (first | apply ops_free | refine o_mv ?_ | refine o_as ?_ | refine o_ld ?_ | refine o_fa ?_ | refine o_bi ?_ | refine o_ln ?_ | refine o_ia ?_ | refine o_no ?_ | refine o_ex ?_ | refine o_fn ?_ | refine o_nc ?_ | refine o_bu ?_ | refine o_al ?_ | refine o_bx ?_ | refine o_sto ?_ | (first | fail) | refine r_nil ?_)); show Awp _ _ _ _ _
        (refine Awp.red (red_freeze 0 rfl ?_) ?_; (intro row hrow; obtain rfl := List.mem_singleton.1 hrow; rfl); refine Awp.red (red_fp 3 0 rfl rfl (Nat.le_of_ble_eq_true rfl)) ?_)
        (refine Awp.red (red_freeze 1 rfl ?_) ?_; (intro row hrow; obtain rfl := List.mem_singleton.1 hrow; rfl); refine Awp.red (red_fp 4 1 rfl rfl (Nat.le_of_ble_eq_true rfl)) ?_)
        repeat' (first | refine walk ?_ | (first | (apply to_call Tryd.func41 rfl rfl; intro hIsFn; refine o_callp hIsFn (ho ..) ?_) | (apply to_call Tryd.func42 rfl rfl; intro hIsFn; refine o_callf hIsFn (hk ..) ?_; skip) | (apply to_call Tryd.func43 rfl rfl; intro hIsFn; refine o_callp hIsFn (hce ..) ?_) | (apply to_call Tryd.func44 rfl rfl; intro hIsFn; refine o_callo ([]) hIsFn (hcl ..) ?_) | (apply to_call Tryd.func45 rfl rfl; intro hIsFn; refine o_callf hIsFn (hidx ..) ?_; skip)) | ((first | (apply awp_cond; rfl)); all_goals (intro hc; have hp := hc; first | (simp at hp; done) | ((try simp at hp); first | (exfalso; omega) | skip))) | (apply awp_cond_any; rfl))
        all_goals try (exfalso; omega)
        all_goals ((refine f_pure (rs := [.cell 6 25, .tmp 7, .tmp 8]) ?_; (repeat' (first | exact rzl_nil | apply rzl_cons | exact rz_pure rfl | exact rz_ex | exact z_os | apply rz_agg | apply rz_tup | apply rz_clo | apply rz_int | apply rz_bool | apply rz_str | refine z_eq ?_ | apply rz_sl)); all_goals trace_state))
  · rw [open_bad hz] at ho
    unfold commitR
    rw [if_pos hz]
    generalize jouE j = E at *
    refine acall_intro Tryd.func13 rfl _ Tryd.ntmps13 (Nat.le_of_ble_eq_true rfl) _ Tryd.results13 0 rfl rfl ?_
    repeat' (first | refine walk ?_ | (first | (apply to_call Tryd.func41 rfl rfl; intro hIsFn; refine o_callp hIsFn (ho ..) ?_)) | ((first | (apply awp_cond; rfl)); all_goals (intro hc; have hp := hc; first | (simp at hp; done) | ((try simp at hp); first | (exfalso; omega) | skip))) | (apply awp_cond_any; rfl))
    all_goals try (exfalso; omega)
    all_goals ((refine f_pure (rs := [.cell 6 25, .tmp 7, .tmp 8]) ?_; (repeat' (first | exact rzl_nil | apply rzl_cons | exact rz_pure rfl | exact rz_ex | exact z_os | apply rz_agg | apply rz_tup | apply rz_clo | apply rz_int | apply rz_bool | apply rz_str | refine z_eq ?_ | apply rz_sl)); all_goals trace_state))
end Go.Proofs.YtkkfilkmkdnboaaDoor

/- Journals in the abstract layer, 8: the reference's CommitOf. -/
set_option linter.unusedSimpArgs false
set_option linter.unnecessarySimpa false
set_option linter.unusedVariables false
set_option maxHeartbeats 1000000
namespace Go.Proofs.YtkkfilkmkdnboaaDoor
open Go.Ab Go.RowKit
set_option maxRecDepth 10000
attribute [local irreducible] Awp Ops OpsX Wanted Red ExOk Go.Ab.Fin ACall Rz RzL RzRows Enters ResOk RenV RenVL ArgV ArgVL

theorem find_at {α : Type} {p : α → Bool} {l : List α} {i : Nat} (h : i < l.length) (hs : ∀ x, x ∈ l.take i → p x = false) (hp : p l[i] = true) : l.find? p = some l[i] := by
  rw [List.find?_eq_some_iff_getElem]
  refine ⟨hp, i, h, rfl, fun j hj => ?_⟩
  have := hs l[j] (by rw [List.mem_take_iff_getElem]; exact ⟨j, by omega, rfl⟩)
  simp [this]
end Go.Proofs.YtkkfilkmkdnboaaDoor

/- Journals in the abstract layer, 6: Follow. -/
set_option linter.unusedSimpArgs false
set_option linter.unnecessarySimpa false
set_option linter.unusedVariables false
set_option maxHeartbeats 1000000
namespace Go.Proofs.YtkkfilkmkdnboaaDoor
open Go.Ab Go.RowKit
set_option maxRecDepth 10000
attribute [local irreducible] Awp Ops OpsX Wanted Red ExOk Go.Ab.Fin ACall Rz RzL RzRows Enters ResOk RenV RenVL ArgV ArgVL

theorem a_isCursor (n : Int) : AFn C.P 54 [.v (.int .i64 n)] (.v (.bool (isCur n))) := by
  refine acall_intro Tryd.func54 rfl _ Tryd.ntmps54 (Nat.le_of_ble_eq_true rfl) _ Tryd.results54 0 rfl rfl ?_
  repeat' (first | refine walk ?_ | fail | ((first | (apply ops_split_t; rfl; rfl; exact nle rfl) | (apply ops_split_f; rfl; rfl; exact nle rfl) | (apply awp_cond; rfl)); all_goals (intro hc; have hp := hc; first | (simp at hp; done) | ((try simp at hp); first | (exfalso; omega) | skip))) | (apply awp_cond_any; rfl))
  all_goals (apply fin_bool; rfl; rw [Bool.eq_iff_iff]; simp [isCur]; try omega)
theorem a_isCursorR (n : Int) : AFn C.P 55 [.v (.int .i64 n)] (.v (.bool (isCur n))) := by
  refine acall_intro Tryd.func55 rfl _ Tryd.ntmps55 (Nat.le_of_ble_eq_true rfl) _ Tryd.results55 0 rfl rfl ?_
  repeat' (first | refine walk ?_ | fail | ((first | (apply ops_split_t; rfl; rfl; exact nle rfl) | (apply ops_split_f; rfl; rfl; exact nle rfl) | (apply awp_cond; rfl)); all_goals (intro hc; have hp := hc; first | (simp at hp; done) | ((try simp at hp); first | (exfalso; omega) | skip))) | (apply awp_cond_any; rfl))
  all_goals (apply fin_bool; rfl; rw [Bool.eq_iff_iff]; simp [isCur]; try omega)
def resF (r : List Ent × Int × Int) : AV := .tup [entAV r.1, .v (.int .i64 r.2.1), .v (.int .i64 r.2.2)]
theorem resF_bad (e : Int) : resF ([], 0, e) = .tup [entAV [], .v (.int .i64 0), .v (.int .i64 e)] := rfl
/-- A page that is not a reset. -/
def followW (t : List Ent) (cursor : Int) (p : Pag) : List Ent × Int × Int :=
  if ¬ p.tree = [] then ([], 0, 1) else if 10 < p.coms.length then ([], 0, 2) else if numsOk (cursor + 1) p.coms = false then ([], 0, 4) else if ¬ p.cur = cursor + p.coms.length then ([], 0, 4)
  else if ¬ (folR t p.coms).2 = 0 then ([], 0, (folR t p.coms).2) else ((folR t p.coms).1, p.cur, 0)
theorem followR_eq {t : List Ent} {cursor : Int} {p : Pag} (h1 : treeErr t = 0) (h2 : isCur cursor = true) (h3 : p.reset = false) : followR t cursor p = followW t cursor p := by
  unfold followR followW
  rw [if_neg (by simp [h1]), if_neg (by simp [h2]), if_neg (by simp [h3])]
theorem a_followW (t : List Ent) (cursor : Int) (p : Pag) (hR : Right t) (h2 : isCur cursor = true) (h3 : p.reset = false) (hb : PBig p) : AFn C.P 25 [entAV t, .v (.int .i64 cursor), .agg p.row] (resF (followW t cursor p)) := by
  have hc := a_tcheck t hR.big
  rw [right_iff.2 hR] at hc
  have hi := a_isCursor cursor
  have hcb : 0 ≤ cursor ∧ cursor ≤ 1000000 := by simpa [isCur] using h2
  rw [h2] at hi
  have hce := a_cloneEF t (by have := hR.len; omega)
  have hml : (p.coms.map Com.row).length = p.coms.length := List.length_map ..
  have hmt : (p.tree.map Ent.row).length = p.tree.length := List.length_map ..
  have hrow : p.row = [.v (.bool false), entAV p.tree, comAV p.coms, .v (.int .i64 p.cur), .v (.bool p.more)] := by unfold Pag.row; rw [h3]
  rw [hrow]
  unfold followW
  by_cases h4 : p.tree = []
  · rw [if_neg (by simp [h4]), h4]
    by_cases h5 : 10 < p.coms.length
    · rw [if_pos h5]
      refine acall_intro Tryd.func25 rfl _ Tryd.ntmps25 (Nat.le_of_ble_eq_true rfl) _ Tryd.results25 0 rfl rfl ?_
      repeat' (first | refine walk ?_ | (first | (apply to_call Tryd.func53 rfl rfl; intro hIsFn; refine o_callp hIsFn (hc ..) ?_) | (apply to_call Tryd.func54 rfl rfl; intro hIsFn; refine o_callf hIsFn (hi ..) ?_; skip)) | ((first | (apply ops_split_t; rfl; rfl; exact nle rfl) | (apply ops_split_f; rfl; rfl; exact nle rfl) | (apply awp_cond; rfl)); all_goals (intro hc; have hp := hc; first | (simp at hp; done) | ((try simp at hp); first | (exfalso; omega) | skip))) | (apply awp_cond_any; rfl))
      all_goals try (exfalso; first | omega | contradiction)
      all_goals ((refine f_pure (rs := [.tmp 6, .tmp 7, .tmp 8]) ?_; (repeat' (first | exact rzl_nil | apply rzl_cons | exact rz_pure rfl | exact rz_ex | exact z_os | apply rz_agg | apply rz_tup | apply rz_clo | apply rz_int | apply rz_bool | apply rz_str | refine z_eq ?_ | apply rz_sl)); all_goals trace_state))
    · rw [if_neg h5]
      generalize hO : (if numsOk (cursor + 1) p.coms = false then (([], 0, 4) : List Ent × Int × Int) else if ¬ p.cur = cursor + p.coms.length then ([], 0, 4) else if ¬ (folR t p.coms).2 = 0 then ([], 0, (folR t p.coms).2) else ((folR t p.coms).1, p.cur, 0)) = O
      generalize hNN : numsOk (cursor + 1) p.coms = NN at hO
      generalize hFF : folR t p.coms = FF at hO
      refine acall_intro Tryd.func25 rfl _ Tryd.ntmps25 (Nat.le_of_ble_eq_true rfl) _ Tryd.results25 0 rfl rfl ?_
      (repeat apply awp_seq); apply awp_region; (repeat' (first | apply ops_free | refine o_mv ?_ | refine o_as ?_ | refine o_ld ?_ | refine o_fa ?_ | refine o_bi ?_ | refine o_pk ?_ | refine o_ln ?_ | refine o_ia ?_ | refine o_no ?_ | refine o_ex ?_ | refine o_al ?_ | refine o_bx ?_ | refine o_sto ?_ | (first | fail) | refine r_nil ?_ | refine g_on_t ?_ | refine g_on_f ?_ | refine g_off_t ?_ | refine g_off_f ?_ | refine g_unw ?_ | refine g_yes ?_ | refine g_no_t ?_ | refine g_no_f ?_ | ((first | refine g_sp_t ?_ ?_ | refine g_sp_f ?_ ?_); all_goals (intro hc; have hp := hc; first | (simp at hp; done) | ((try simp at hp); first | (exfalso; omega) | skip))))); show Awp _ _ _ _ _
      (refine Awp.red (red_freeze 0 rfl ?_) ?_; (intro row hrow; obtain rfl := List.mem_singleton.1 hrow; rfl); refine Awp.red (red_fp 5 0 rfl rfl (Nat.le_of_ble_eq_true rfl)) ?_)
      repeat' (first | refine walk ?_ | (first | (apply to_call Tryd.func53 rfl rfl; intro hIsFn; refine o_callp hIsFn (hc ..) ?_) | (apply to_call Tryd.func54 rfl rfl; intro hIsFn; refine o_callf hIsFn (hi ..) ?_; skip)) | ((first | (apply ops_split_t; rfl; rfl; exact nle rfl) | (apply ops_split_f; rfl; rfl; exact nle rfl) | (apply awp_cond; rfl)); all_goals (intro hc; have hp := hc; first | (simp at hp; done) | ((try simp at hp); first | (exfalso; omega) | skip))) | (apply awp_cond_any; rfl))
      all_goals try (exfalso; first | omega | contradiction)
      (refine Awp.red (red_pure (ts := [(0, entAV t), (1, .v (.int .i64 cursor)), (5, .fp [[.v (.bool false), entAV [], comAV p.coms, .v (.int .i64 p.cur), .v (.bool p.more)]] 0 0), (69, comAV p.coms), (70, .v (.int .i64 p.coms.length)), (71, .v (.int .i64 ((0 : Nat) : Int)))]) ?_) ?_; ((repeat (first | exact tsok_nil | refine p_pure ?_ | refine p_eq ?_ ?_))))
      all_goals try (rw [List.length_map]; done)
      refine awp_loop (fun n σ => ∃ i : Nat, i ≤ p.coms.length ∧ n = p.coms.length - i ∧ (NN = numsOk (cursor + 1 + i) (p.coms.drop i)) ∧ σ = ⟨[(0, entAV t), (1, .v (.int .i64 cursor)), (5, .fp [[.v (.bool false), entAV [], comAV p.coms, .v (.int .i64 p.cur), .v (.bool p.more)]] 0 0), (69, comAV p.coms), (70, .v (.int .i64 p.coms.length)), (71, .v (.int .i64 (i : Int)))], [], C.nh⟩) p.coms.length ⟨0, Nat.zero_le _, rfl, (by rw [← hNN]; simp), rfl⟩ ?_
      rintro n σ ⟨i, hii, rfl, hni, rfl⟩
      by_cases hlt : i < p.coms.length
      · have hr := getRow (f := Com.row) hlt
        rw [numsOk_drop hlt] at hni
        by_cases hnum : p.coms[i].num = cursor + 1 + i
        · have hni2 : NN = numsOk (cursor + 1 + ((i + 1 : Nat) : Int)) (p.coms.drop (i + 1)) := by rw [hni, decide_eq_true hnum, Bool.true_and]; congr 1; omega
          clear hni hO hNN hFF
          repeat' (first | refine walk ?_ | fail | ((first | (apply ops_split_t; rfl; rfl; exact nle rfl) | (apply ops_split_f; rfl; rfl; exact nle rfl) | (apply awp_cond; rfl)); all_goals (intro hc; have hp := hc; first | (simp at hp; done) | ((try simp at hp); first | (exfalso; omega) | skip))) | (apply awp_cond_any; rfl))
          all_goals try (exfalso; first | omega | contradiction)
          refine ⟨p.coms.length - (i + 1), _, by omega, red_pure (ts := [(0, entAV t), (1, .v (.int .i64 cursor)), (5, .fp [[.v (.bool false), entAV [], comAV p.coms, .v (.int .i64 p.cur), .v (.bool p.more)]] 0 0), (69, comAV p.coms), (70, .v (.int .i64 p.coms.length)), (71, .v (.int .i64 ((i + 1 : Nat) : Int)))]) ?_, i + 1, by omega, rfl, hni2, rfl⟩; ((repeat (first | exact tsok_nil | refine p_pure ?_ | refine p_eq ?_ ?_)))
        · rw [decide_eq_false hnum, Bool.false_and] at hni
          rw [if_pos hni] at hO
          subst hO
          clear hni hNN hFF
          repeat' (first | refine walk ?_ | fail | ((first | (apply ops_split_t; rfl; rfl; exact nle rfl) | (apply ops_split_f; rfl; rfl; exact nle rfl) | (apply awp_cond; rfl)); all_goals (intro hc; have hp := hc; first | (simp at hp; done) | ((try simp at hp); first | (exfalso; omega) | skip))) | (apply awp_cond_any; rfl))
          all_goals try (exfalso; first | omega | contradiction)
          all_goals ((refine f_pure (rs := [.tmp 6, .tmp 7, .tmp 8]) ?_; (repeat' (first | exact rzl_nil | apply rzl_cons | exact rz_pure rfl | exact rz_ex | exact z_os | apply rz_agg | apply rz_tup | apply rz_clo | apply rz_int | apply rz_bool | apply rz_str | refine z_eq ?_ | apply rz_sl)); all_goals trace_state))
      · obtain rfl : i = p.coms.length := by omega
        rw [List.drop_length] at hni
        have hni : NN = true := hni
        rw [if_neg (by simp [hni])] at hO
        by_cases h6 : p.cur = cursor + p.coms.length
        · rw [if_neg (by simp [h6])] at hO
          (repeat' (first | refine walk ?_ | (first | (apply to_call Tryd.func43 rfl rfl; intro hIsFn; refine o_callo ([]) hIsFn (fail ..) ?_) | (apply to_call Tryd.func43 rfl rfl; intro hIsFn; refine o_callp hIsFn (hce ..) ?_)) | ((first | (apply ops_split_t; rfl; rfl; exact nle rfl) | (apply ops_split_f; rfl; rfl; exact nle rfl) | (apply awp_cond; rfl)); all_goals (intro hc; have hp := hc; first | (simp at hp; done) | ((try simp at hp); first | (exfalso; omega) | skip))) | (apply awp_cond_any; rfl)))
          (all_goals try (exfalso; first | omega | contradiction))
          (refine Awp.red (red_pure (ts := [(0, entAV t), (1, .v (.int .i64 cursor)), (5, .fp [[.v (.bool false), entAV [], comAV p.coms, .v (.int .i64 p.cur), .v (.bool p.more)]] 0 0), (95, comAV p.coms), (96, .v (.int .i64 p.coms.length)), (97, .v (.int .i64 ((0 : Nat) : Int)))]) ?_) ?_; ((repeat (first | exact tsok_nil | refine p_pure ?_ | refine p_eq ?_ ?_))))
          all_goals try (rw [List.length_map]; done)
          refine awp_loop (fun n σ => ∃ (i : Nat) (u : List Ent), i ≤ p.coms.length ∧ n = p.coms.length - i ∧ (FF = folR u (p.coms.drop i) ∧ Right u) ∧ σ = ⟨[(0, entAV u), (1, .v (.int .i64 cursor)), (5, .fp [[.v (.bool false), entAV [], comAV p.coms, .v (.int .i64 p.cur), .v (.bool p.more)]] 0 0), (95, comAV p.coms), (96, .v (.int .i64 p.coms.length)), (97, .v (.int .i64 (i : Int)))], [], C.nh⟩) p.coms.length ⟨0, t, Nat.zero_le _, rfl, ⟨hFF.symm, hR⟩, rfl⟩ ?_
          rintro n σ ⟨i, u, hi2, rfl, ⟨hFi, hRu⟩, rfl⟩
          by_cases hlt2 : i < p.coms.length
          · have hr := getRow (f := Com.row) hlt2
            have hall := a_all u p.coms[i].chs p.coms[i].num hRu.big (hb.coms.each _ (List.getElem_mem _)).chs
            have hRn := @allT_right p.coms[i].num u p.coms[i].chs hRu
            rw [folR_drop hlt2] at hFi
            generalize allT p.coms[i].num u p.coms[i].chs = T at *
            obtain ⟨t2, n2, e2⟩ := T
            by_cases he : e2 = 0
            · subst he
              rw [if_neg (by simp)] at hFi
              have hRn := hRn rfl
              clear hO hNN hFF
              repeat' (first | refine walk ?_ | (first | (apply to_call Tryd.func48 rfl rfl; intro hIsFn; refine o_callp hIsFn (hall ..) ?_)) | ((first | (apply ops_split_t; rfl; rfl; exact nle rfl) | (apply ops_split_f; rfl; rfl; exact nle rfl) | (apply awp_cond; rfl)); all_goals (intro hc; have hp := hc; first | (simp at hp; done) | ((try simp at hp); first | (exfalso; omega) | skip))) | (apply awp_cond_any; rfl))
              all_goals try (exfalso; first | omega | contradiction)
              refine ⟨p.coms.length - (i + 1), _, by omega, red_pure (ts := [(0, entAV t2), (1, .v (.int .i64 cursor)), (5, .fp [[.v (.bool false), entAV [], comAV p.coms, .v (.int .i64 p.cur), .v (.bool p.more)]] 0 0), (95, comAV p.coms), (96, .v (.int .i64 p.coms.length)), (97, .v (.int .i64 ((i + 1 : Nat) : Int)))]) ?_, i + 1, t2, by omega, rfl, ⟨hFi, hRn⟩, rfl⟩
              (repeat (first | exact tsok_nil | refine p_pure ?_ | refine p_eq ?_ ?_))
            · rw [if_pos he] at hFi
              rw [hFi, if_pos he] at hO
              subst hO
              clear hNN hFF
              repeat' (first | refine walk ?_ | (first | (apply to_call Tryd.func48 rfl rfl; intro hIsFn; refine o_callp hIsFn (hall ..) ?_)) | ((first | (apply ops_split_t; rfl; rfl; exact nle rfl) | (apply ops_split_f; rfl; rfl; exact nle rfl) | (apply awp_cond; rfl)); all_goals (intro hc; have hp := hc; first | (simp at hp; done) | ((try simp at hp); first | (exfalso; omega) | skip))) | (apply awp_cond_any; rfl))
              all_goals try (exfalso; first | omega | contradiction)
              all_goals ((refine f_pure (rs := [.tmp 6, .tmp 7, .tmp 8]) ?_; (repeat' (first | exact rzl_nil | apply rzl_cons | exact rz_pure rfl | exact rz_ex | exact z_os | apply rz_agg | apply rz_tup | apply rz_clo | apply rz_int | apply rz_bool | apply rz_str | refine z_eq ?_ | apply rz_sl)); all_goals trace_state))
          · obtain rfl : i = p.coms.length := by omega
            rw [List.drop_length] at hFi
            rw [hFi, if_neg (by simp [folR])] at hO
            subst hO
            clear hNN hFF
            repeat' (first | refine walk ?_ | fail | ((first | (apply ops_split_t; rfl; rfl; exact nle rfl) | (apply ops_split_f; rfl; rfl; exact nle rfl) | (apply awp_cond; rfl)); all_goals (intro hc; have hp := hc; first | (simp at hp; done) | ((try simp at hp); first | (exfalso; omega) | skip))) | (apply awp_cond_any; rfl))
            all_goals try (exfalso; first | omega | contradiction)
            all_goals ((refine f_pure (rs := [.tmp 6, .tmp 7, .tmp 8]) ?_; (repeat' (first | exact rzl_nil | apply rzl_cons | exact rz_pure rfl | exact rz_ex | exact z_os | apply rz_agg | apply rz_tup | apply rz_clo | apply rz_int | apply rz_bool | apply rz_str | refine z_eq ?_ | apply rz_sl)); all_goals trace_state))
        · rw [if_pos h6] at hO
          subst hO
          clear hNN hFF
          repeat' (first | refine walk ?_ | fail | ((first | (apply ops_split_t; rfl; rfl; exact nle rfl) | (apply ops_split_f; rfl; rfl; exact nle rfl) | (apply awp_cond; rfl)); all_goals (intro hc; have hp := hc; first | (simp at hp; done) | ((try simp at hp); first | (exfalso; omega) | skip))) | (apply awp_cond_any; rfl))
          all_goals try (exfalso; first | omega | contradiction)
          all_goals ((refine f_pure (rs := [.tmp 6, .tmp 7, .tmp 8]) ?_; (repeat' (first | exact rzl_nil | apply rzl_cons | exact rz_pure rfl | exact rz_ex | exact z_os | apply rz_agg | apply rz_tup | apply rz_clo | apply rz_int | apply rz_bool | apply rz_str | refine z_eq ?_ | apply rz_sl)); all_goals trace_state))
  · rw [if_pos h4]
    have h5 : ¬ p.tree.length = 0 := fun e => h4 (List.eq_nil_of_length_eq_zero e)
    refine acall_intro Tryd.func25 rfl _ Tryd.ntmps25 (Nat.le_of_ble_eq_true rfl) _ Tryd.results25 0 rfl rfl ?_
    repeat' (first | refine walk ?_ | (first | (apply to_call Tryd.func53 rfl rfl; intro hIsFn; refine o_callp hIsFn (hc ..) ?_) | (apply to_call Tryd.func54 rfl rfl; intro hIsFn; refine o_callf hIsFn (hi ..) ?_; skip)) | ((first | (apply ops_split_t; rfl; rfl; exact nle rfl) | (apply ops_split_f; rfl; rfl; exact nle rfl) | (apply awp_cond; rfl)); all_goals (intro hc; have hp := hc; first | (simp at hp; done) | ((try simp at hp); first | (exfalso; omega) | skip))) | (apply awp_cond_any; rfl))
    all_goals try (exfalso; first | omega | contradiction)
    all_goals ((refine f_pure (rs := [.tmp 6, .tmp 7, .tmp 8]) ?_; (repeat' (first | exact rzl_nil | apply rzl_cons | exact rz_pure rfl | exact rz_ex | exact z_os | apply rz_agg | apply rz_tup | apply rz_clo | apply rz_int | apply rz_bool | apply rz_str | refine z_eq ?_ | apply rz_sl)); all_goals trace_state))
theorem a_follow (t : List Ent) (cursor : Int) (p : Pag) (hbt : EBig t) (hb : PBig p) : AFn C.P 25 [entAV t, .v (.int .i64 cursor), .agg p.row] (resF (followR t cursor p)) := by
  have hc := a_tcheck t hbt
  have hi := a_isCursor cursor
  have hml : (p.coms.map Com.row).length = p.coms.length := List.length_map ..
  by_cases h1 : treeErr t = 0
  · have hR := right_iff.1 h1
    rw [h1] at hc
    cases h2 : isCur cursor with
    | true =>
      rw [h2] at hi
      cases h3 : p.reset with
      | false => rw [followR_eq h1 h2 h3]; exact a_followW t cursor p hR h2 h3 hb
      | true =>
        have hE : followR t cursor p = if ¬ treeErr p.tree = 0 then ([], 0, treeErr p.tree) else if isCur p.cur = false then ([], 0, 3) else if ¬ p.coms = [] ∨ p.more = true then ([], 0, 1) else (p.tree, p.cur, 0) := by
          unfold followR; rw [if_neg (by simp [h1]), if_neg (by simp [h2]), if_pos h3]
        rw [hE]
        have hc2 := a_tcheck p.tree hb.tree
        have hi2 := a_isCursor p.cur
        have hrow : p.row = [.v (.bool true), entAV p.tree, comAV p.coms, .v (.int .i64 p.cur), .v (.bool p.more)] := by unfold Pag.row; rw [h3]
        rw [hrow]
        clear hE hrow
        by_cases h4 : treeErr p.tree = 0
        · have hR2 := right_iff.1 h4
          have hce := a_cloneEF p.tree (by have := hR2.len; omega)
          rw [h4] at hc2
          rw [if_neg (by simp [h4])]
          cases h5 : isCur p.cur with
          | false =>
            rw [h5] at hi2
            rw [if_pos rfl]
            refine acall_intro Tryd.func25 rfl _ Tryd.ntmps25 (Nat.le_of_ble_eq_true rfl) _ Tryd.results25 0 rfl rfl ?_
            (repeat' (first | refine walk ?_ | (first | (apply to_call Tryd.func53 rfl rfl; intro hIsFn; refine o_callp hIsFn (hc ..) ?_) | (apply to_call Tryd.func53 rfl rfl; intro hIsFn; refine o_callp hIsFn (hc2 ..) ?_) | (apply to_call Tryd.func54 rfl rfl; intro hIsFn; refine o_callf hIsFn (hi ..) ?_; skip) | (apply to_call Tryd.func54 rfl rfl; intro hIsFn; refine o_callf hIsFn (hi2 ..) ?_; skip) | fail) | ((first | (apply ops_split_t; rfl; rfl; exact nle rfl) | (apply ops_split_f; rfl; rfl; exact nle rfl) | (apply awp_cond; rfl)); all_goals (intro hc; have hp := hc; first | (simp at hp; done) | ((try simp at hp); first | (exfalso; omega) | skip))) | (apply awp_cond_any; rfl)))
            (all_goals try (exfalso; first | omega | contradiction))
            (all_goals ((refine f_pure (rs := [.tmp 6, .tmp 7, .tmp 8]) ?_; (repeat' (first | exact rzl_nil | apply rzl_cons | exact rz_pure rfl | exact rz_ex | exact z_os | apply rz_agg | apply rz_tup | apply rz_clo | apply rz_int | apply rz_bool | apply rz_str | refine z_eq ?_ | apply rz_sl)); all_goals trace_state)))
          | true =>
            rw [h5] at hi2
            rw [if_neg (by decide)]
            by_cases h6 : p.coms.length = 0
            · have h6b := List.eq_nil_of_length_eq_zero h6
              cases h7 : p.more with
              | true =>
                rw [if_pos (.inr rfl)]
                refine acall_intro Tryd.func25 rfl _ Tryd.ntmps25 (Nat.le_of_ble_eq_true rfl) _ Tryd.results25 0 rfl rfl ?_
                (repeat' (first | refine walk ?_ | (first | (apply to_call Tryd.func53 rfl rfl; intro hIsFn; refine o_callp hIsFn (hc ..) ?_) | (apply to_call Tryd.func53 rfl rfl; intro hIsFn; refine o_callp hIsFn (hc2 ..) ?_) | (apply to_call Tryd.func54 rfl rfl; intro hIsFn; refine o_callf hIsFn (hi ..) ?_; skip) | (apply to_call Tryd.func54 rfl rfl; intro hIsFn; refine o_callf hIsFn (hi2 ..) ?_; skip) | fail) | ((first | (apply ops_split_t; rfl; rfl; exact nle rfl) | (apply ops_split_f; rfl; rfl; exact nle rfl) | (apply awp_cond; rfl)); all_goals (intro hc; have hp := hc; first | (simp at hp; done) | ((try simp at hp); first | (exfalso; omega) | skip))) | (apply awp_cond_any; rfl)))
                (all_goals try (exfalso; first | omega | contradiction))
                (all_goals ((refine f_pure (rs := [.tmp 6, .tmp 7, .tmp 8]) ?_; (repeat' (first | exact rzl_nil | apply rzl_cons | exact rz_pure rfl | exact rz_ex | exact z_os | apply rz_agg | apply rz_tup | apply rz_clo | apply rz_int | apply rz_bool | apply rz_str | refine z_eq ?_ | apply rz_sl)); all_goals trace_state)))
              | false =>
                rw [if_neg (by simp [h6b])]
                refine acall_intro Tryd.func25 rfl _ Tryd.ntmps25 (Nat.le_of_ble_eq_true rfl) _ Tryd.results25 0 rfl rfl ?_
                (repeat' (first | refine walk ?_ | (first | (apply to_call Tryd.func53 rfl rfl; intro hIsFn; refine o_callp hIsFn (hc ..) ?_) | (apply to_call Tryd.func53 rfl rfl; intro hIsFn; refine o_callp hIsFn (hc2 ..) ?_) | (apply to_call Tryd.func54 rfl rfl; intro hIsFn; refine o_callf hIsFn (hi ..) ?_; skip) | (apply to_call Tryd.func54 rfl rfl; intro hIsFn; refine o_callf hIsFn (hi2 ..) ?_; skip) | (apply to_call Tryd.func43 rfl rfl; intro hIsFn; refine o_callp hIsFn (hce ..) ?_)) | ((first | (apply ops_split_t; rfl; rfl; exact nle rfl) | (apply ops_split_f; rfl; rfl; exact nle rfl) | (apply awp_cond; rfl)); all_goals (intro hc; have hp := hc; first | (simp at hp; done) | ((try simp at hp); first | (exfalso; omega) | skip))) | (apply awp_cond_any; rfl)))
                (all_goals try (exfalso; first | omega | contradiction))
                (all_goals ((refine f_pure (rs := [.tmp 6, .tmp 7, .tmp 8]) ?_; (repeat' (first | exact rzl_nil | apply rzl_cons | exact rz_pure rfl | exact rz_ex | exact z_os | apply rz_agg | apply rz_tup | apply rz_clo | apply rz_int | apply rz_bool | apply rz_str | refine z_eq ?_ | apply rz_sl)); all_goals trace_state)))
            · have h6b : ¬ p.coms = [] := fun e => h6 (by rw [e]; rfl)
              rw [if_pos (.inl h6b)]
              refine acall_intro Tryd.func25 rfl _ Tryd.ntmps25 (Nat.le_of_ble_eq_true rfl) _ Tryd.results25 0 rfl rfl ?_
              (repeat' (first | refine walk ?_ | (first | (apply to_call Tryd.func53 rfl rfl; intro hIsFn; refine o_callp hIsFn (hc ..) ?_) | (apply to_call Tryd.func53 rfl rfl; intro hIsFn; refine o_callp hIsFn (hc2 ..) ?_) | (apply to_call Tryd.func54 rfl rfl; intro hIsFn; refine o_callf hIsFn (hi ..) ?_; skip) | (apply to_call Tryd.func54 rfl rfl; intro hIsFn; refine o_callf hIsFn (hi2 ..) ?_; skip) | fail) | ((first | (apply ops_split_t; rfl; rfl; exact nle rfl) | (apply ops_split_f; rfl; rfl; exact nle rfl) | (apply awp_cond; rfl)); all_goals (intro hc; have hp := hc; first | (simp at hp; done) | ((try simp at hp); first | (exfalso; omega) | skip))) | (apply awp_cond_any; rfl)))
              (all_goals try (exfalso; first | omega | contradiction))
              (all_goals ((refine f_pure (rs := [.tmp 6, .tmp 7, .tmp 8]) ?_; (repeat' (first | exact rzl_nil | apply rzl_cons | exact rz_pure rfl | exact rz_ex | exact z_os | apply rz_agg | apply rz_tup | apply rz_clo | apply rz_int | apply rz_bool | apply rz_str | refine z_eq ?_ | apply rz_sl)); all_goals trace_state)))
        · rw [if_pos h4]
          generalize treeErr p.tree = E at *
          refine acall_intro Tryd.func25 rfl _ Tryd.ntmps25 (Nat.le_of_ble_eq_true rfl) _ Tryd.results25 0 rfl rfl ?_
          (repeat' (first | refine walk ?_ | (first | (apply to_call Tryd.func53 rfl rfl; intro hIsFn; refine o_callp hIsFn (hc ..) ?_) | (apply to_call Tryd.func53 rfl rfl; intro hIsFn; refine o_callp hIsFn (hc2 ..) ?_) | (apply to_call Tryd.func54 rfl rfl; intro hIsFn; refine o_callf hIsFn (hi ..) ?_; skip) | (apply to_call Tryd.func54 rfl rfl; intro hIsFn; refine o_callf hIsFn (hi2 ..) ?_; skip) | fail) | ((first | (apply ops_split_t; rfl; rfl; exact nle rfl) | (apply ops_split_f; rfl; rfl; exact nle rfl) | (apply awp_cond; rfl)); all_goals (intro hc; have hp := hc; first | (simp at hp; done) | ((try simp at hp); first | (exfalso; omega) | skip))) | (apply awp_cond_any; rfl)))
          (all_goals try (exfalso; first | omega | contradiction))
          (all_goals ((refine f_pure (rs := [.tmp 6, .tmp 7, .tmp 8]) ?_; (repeat' (first | exact rzl_nil | apply rzl_cons | exact rz_pure rfl | exact rz_ex | exact z_os | apply rz_agg | apply rz_tup | apply rz_clo | apply rz_int | apply rz_bool | apply rz_str | refine z_eq ?_ | apply rz_sl)); all_goals trace_state)))
    | false =>
      rw [h2] at hi
      have hE : followR t cursor p = ([], 0, 3) := by unfold followR; rw [if_neg (by simp [h1]), if_pos h2]
      rw [hE]
      refine acall_intro Tryd.func25 rfl _ Tryd.ntmps25 (Nat.le_of_ble_eq_true rfl) _ Tryd.results25 0 rfl rfl ?_
      (repeat' (first | refine walk ?_ | (first | (apply to_call Tryd.func53 rfl rfl; intro hIsFn; refine o_callp hIsFn (hc ..) ?_) | (apply to_call Tryd.func53 rfl rfl; intro hIsFn; refine o_callp hIsFn (hc2 ..) ?_) | (apply to_call Tryd.func54 rfl rfl; intro hIsFn; refine o_callf hIsFn (hi ..) ?_; skip) | (apply to_call Tryd.func54 rfl rfl; intro hIsFn; refine o_callf hIsFn (hi2 ..) ?_; skip) | fail) | ((first | (apply ops_split_t; rfl; rfl; exact nle rfl) | (apply ops_split_f; rfl; rfl; exact nle rfl) | (apply awp_cond; rfl)); all_goals (intro hc; have hp := hc; first | (simp at hp; done) | ((try simp at hp); first | (exfalso; omega) | skip))) | (apply awp_cond_any; rfl)))
      (all_goals try (exfalso; first | omega | contradiction))
      (all_goals ((refine f_pure (rs := [.tmp 6, .tmp 7, .tmp 8]) ?_; (repeat' (first | exact rzl_nil | apply rzl_cons | exact rz_pure rfl | exact rz_ex | exact z_os | apply rz_agg | apply rz_tup | apply rz_clo | apply rz_int | apply rz_bool | apply rz_str | refine z_eq ?_ | apply rz_sl)); all_goals trace_state)))
  · have hE : followR t cursor p = ([], 0, treeErr t) := by unfold followR; rw [if_pos h1]
    rw [hE]
    generalize treeErr t = E at *
    refine acall_intro Tryd.func25 rfl _ Tryd.ntmps25 (Nat.le_of_ble_eq_true rfl) _ Tryd.results25 0 rfl rfl ?_
    (repeat' (first | refine walk ?_ | (first | (apply to_call Tryd.func53 rfl rfl; intro hIsFn; refine o_callp hIsFn (hc ..) ?_) | (apply to_call Tryd.func53 rfl rfl; intro hIsFn; refine o_callp hIsFn (hc2 ..) ?_) | (apply to_call Tryd.func54 rfl rfl; intro hIsFn; refine o_callf hIsFn (hi ..) ?_; skip) | (apply to_call Tryd.func54 rfl rfl; intro hIsFn; refine o_callf hIsFn (hi2 ..) ?_; skip) | fail) | ((first | (apply ops_split_t; rfl; rfl; exact nle rfl) | (apply ops_split_f; rfl; rfl; exact nle rfl) | (apply awp_cond; rfl)); all_goals (intro hc; have hp := hc; first | (simp at hp; done) | ((try simp at hp); first | (exfalso; omega) | skip))) | (apply awp_cond_any; rfl)))
    (all_goals try (exfalso; first | omega | contradiction))
    (all_goals ((refine f_pure (rs := [.tmp 6, .tmp 7, .tmp 8]) ?_; (repeat' (first | exact rzl_nil | apply rzl_cons | exact rz_pure rfl | exact rz_ex | exact z_os | apply rz_agg | apply rz_tup | apply rz_clo | apply rz_int | apply rz_bool | apply rz_str | refine z_eq ?_ | apply rz_sl)); all_goals trace_state)))
end Go.Proofs.YtkkfilkmkdnboaaDoor

/- Journals in the abstract layer, 9: the reference's FollowOf. -/
set_option linter.unusedSimpArgs false
set_option linter.unnecessarySimpa false
set_option linter.unusedVariables false
set_option maxHeartbeats 1000000
namespace Go.Proofs.YtkkfilkmkdnboaaDoor
open Go.Ab Go.RowKit
set_option maxRecDepth 10000
attribute [local irreducible] Awp Ops OpsX Wanted Red ExOk Go.Ab.Fin ACall Rz RzL RzRows Enters ResOk RenV RenVL ArgV ArgVL

end Go.Proofs.YtkkfilkmkdnboaaDoor

/- Journals in the abstract layer, 8b: the reference's ReadOf. -/
set_option linter.unusedSimpArgs false
set_option linter.unnecessarySimpa false
set_option linter.unusedVariables false
set_option maxHeartbeats 1000000
namespace Go.Proofs.YtkkfilkmkdnboaaDoor
open Go.Ab Go.RowKit
set_option maxRecDepth 10000
attribute [local irreducible] Awp Ops OpsX Wanted Red ExOk Go.Ab.Fin ACall Rz RzL RzRows Enters ResOk RenV RenVL ArgV ArgVL

theorem drop_take_succ {α : Type} {l : List α} {k c : Nat} (h : k + c < l.length) : (l.drop k).take (c + 1) = (l.drop k).take c ++ [l[k + c]] := by
  rw [List.take_succ_eq_append_getElem (by simp; omega)]
  simp
end Go.Proofs.YtkkfilkmkdnboaaDoor

/- Journals in the abstract layer, 11: laws. -/
set_option linter.unusedSimpArgs false
set_option linter.unnecessarySimpa false
set_option linter.unusedVariables false
set_option maxHeartbeats 1000000
namespace Go.Proofs.YtkkfilkmkdnboaaDoor
open Go.Ab Go.RowKit
set_option maxRecDepth 10000
attribute [local irreducible] Awp Ops OpsX Wanted Red ExOk Go.Ab.Fin ACall Rz RzL RzRows Enters ResOk RenV RenVL ArgV ArgVL

def jZ : Jou := ⟨[], 1, []⟩
def cA : Chg := ⟨2, [97], [], [120], 0⟩
def jA : Jou := ⟨[], 1, [⟨1, [107], [cA]⟩]⟩
theorem a_jbegun : AFn C.P 16 [] (.v (.bool true)) := by
  have hcb : CBig [cA] := ⟨fun e h => by rw [List.mem_singleton.1 h]; exact ⟨by decide, by decide, by decide⟩, by simp⟩
  have hz : JBig jZ := ⟨⟨by simp [jZ], by simp [jZ]⟩, ⟨by simp [jZ], by simp [jZ]⟩⟩
  have h0 : commitR jZ [107] [cA] = (jA, 1, 0) := by decide +kernel
  have h1 := a_commit jZ [107] [cA] hz hcb
  have hbA := commit_big (j := jZ) (key := [107]) (l := [cA]) hz hcb (by decide)
  rw [h0] at h1 hbA
  have h2 := a_read jA 0 5 hbA
  rw [show readR jA 0 5 = (⟨false, [], [⟨1, [107], [cA]⟩], 1, false⟩, 0) from by decide +kernel] at h2
  have h1 : AFn C.P 13 [.agg [.sl false [], .v (.int .i64 1), .sl false []], .v (str [107]), .sl false [[.v (.int .i64 2), .v (str [97]), .v (str []), .v (str [120]), .v (.int .i64 0)]]] (.tup [.agg jA.row, .v (.int .i64 1), .v (.int .i64 0)]) := h1
  have h2 : AFn C.P 18 [.agg jA.row, .v (.int .i64 0), .v (.int .i64 5)] (.tup [.agg [.v (.bool false), .sl false [], .sl false [[.v (.int .i64 1), .v (str [107]), chgAV [cA]]], .v (.int .i64 1), .v (.bool false)], .v (.int .i64 0)]) := h2
  refine acall_intro Tryd.func16 rfl _ Tryd.ntmps16 (Nat.le_of_ble_eq_true rfl) _ Tryd.results16 0 rfl rfl ?_
  repeat' (first | refine walk ?_ | (first | (refine o_fzl ?_) | (apply to_call Tryd.func13 rfl rfl; intro hIsFn; refine o_callp hIsFn (h1 ..) ?_) | (apply to_call Tryd.func18 rfl rfl; intro hIsFn; refine o_callp hIsFn (h2 ..) ?_)) | ((first | (apply ops_split_t; rfl; rfl; exact nle rfl) | (apply ops_split_f; rfl; rfl; exact nle rfl) | (apply awp_cond; rfl)); all_goals (intro hc; have hp := hc; first | (simp at hp; done) | ((try simp at hp); first | (exfalso; omega) | skip))) | (apply awp_cond_any; rfl))
  all_goals try (exfalso; simp_all; done)
  all_goals (apply fin_bool; rfl; simp; done)
theorem law_jonce (j : Jou) (key : Str) (l m : List Chg) (hb : JBig j) (hcb : CBig l) (hcm : CBig m) (hk : key.length ≤ 140737488355328) : AFn C.P 5 [.agg j.row, .v (str key), chgAV l, chgAV m] (.v (.bool true)) := by
  have h1 := a_commit j key l hb hcb
  have hbx := commit_big (j := j) hb hcb hk
  have ha := fun x n e h => @commit_again j x key l m n e h
  generalize commitR j key l = R at *
  obtain ⟨x, n, e⟩ := R
  rcases ha x n e rfl with ⟨he, rfl⟩ | ⟨rfl, hx, hx2⟩
  · refine acall_intro Tryd.func5 rfl _ Tryd.ntmps5 (Nat.le_of_ble_eq_true rfl) _ Tryd.results5 0 rfl rfl ?_
    repeat' (first | refine walk ?_ | (first | (apply to_call Tryd.func13 rfl rfl; intro hIsFn; refine o_callp hIsFn (h1 ..) ?_) | (apply to_call Tryd.func16 rfl rfl; intro hIsFn; refine o_callf hIsFn (a_jbegun ..) ?_; skip)) | ((first | (apply ops_split_t; rfl; rfl; exact nle rfl) | (apply ops_split_f; rfl; rfl; exact nle rfl) | (apply awp_cond; rfl)); all_goals (intro hc; have hp := hc; first | (simp at hp; done) | ((try simp at hp); first | (exfalso; omega) | skip))) | (apply awp_cond_any; rfl))
    all_goals try (exfalso; first | omega | (simp_all; done))
    all_goals (apply fin_bool; rfl; simp_all; done)
  · have h2 := a_commit x key m hbx hcm
    rw [hx2] at h2
    have h3 := a_jcheck x hbx
    rw [hx] at h3
    have h4 := a_sameJou x x hbx hbx
    rw [decide_eq_true rfl] at h4
    clear ha hx2
    refine acall_intro Tryd.func5 rfl _ Tryd.ntmps5 (Nat.le_of_ble_eq_true rfl) _ Tryd.results5 0 rfl rfl ?_
    repeat' (first | refine walk ?_ | (first | (apply to_call Tryd.func13 rfl rfl; intro hIsFn; refine o_callp hIsFn (h1 ..) ?_) | (apply to_call Tryd.func13 rfl rfl; intro hIsFn; refine o_callp hIsFn (h2 ..) ?_) | (apply to_call Tryd.func16 rfl rfl; intro hIsFn; refine o_callf hIsFn (a_jbegun ..) ?_; skip) | (apply to_call Tryd.func21 rfl rfl; intro hIsFn; refine o_callf hIsFn (h3 ..) ?_; skip) | (apply to_call Tryd.func17 rfl rfl; intro hIsFn; refine o_callf hIsFn (h4 ..) ?_; skip)) | ((first | (apply ops_split_t; rfl; rfl; exact nle rfl) | (apply ops_split_f; rfl; rfl; exact nle rfl) | (apply awp_cond; rfl)); all_goals (intro hc; have hp := hc; first | (simp at hp; done) | ((try simp at hp); first | (exfalso; omega) | skip))) | (apply awp_cond_any; rfl))
    all_goals try (exfalso; first | omega | (simp_all; done))
    all_goals (apply fin_bool; rfl; simp_all; done)
end Go.Proofs.YtkkfilkmkdnboaaDoor
