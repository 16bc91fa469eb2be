import Derived.Test.YtiljlcgmcmjcoaaGreatDoorMz21
import Derived.Test.YtiljlcgmcmjcoaaGreatDoorMz13
/- Journals in the abstract layer, 4: Commit. -/
set_option linter.unusedSimpArgs false
set_option linter.unnecessarySimpa false
set_option linter.unusedVariables false
set_option maxHeartbeats 1000000
namespace Go.Proofs.YtiljlcgmcmjcoaaGreatDoor
open Go.Ab Go.RowKit
set_option maxRecDepth 10000
attribute [local irreducible] Awp Ops OpsX Wanted Red ExOk Go.Ab.Fin ACall Rz RzL RzRows Enters ResOk RenV RenVL ArgV ArgVL

theorem a_commitC (c : Com) (key : Str) : AFn C.P 159 [.agg c.row, .fp [[.v (str key)]] 0 0] (.v (.bool (isK key c))) := by
  refine acall_intro Tryz.func159 rfl _ Tryz.ntmps159 (Nat.le_of_ble_eq_true rfl) _ Tryz.results159 0 rfl rfl ?_
  repeat' (first | refine walk ?_ | fail | ((first | (apply awp_cond; rfl)); all_goals (intro hc; have hp := hc; first | (simp at hp; done) | ((try simp at hp); first | (exfalso; omega) | skip))) | (apply awp_cond_any; rfl))
  all_goals (apply fin_bool; rfl; rfl)
theorem a_indexM (p : Com → Bool) (g : FuncId) (hg : IsFn C.P g) (cap : List AV) (hcap : AV.pure.pureL cap = true) (l : List (Com)) (hl : l.length ≤ 1000000) (hc : ∀ s, s ∈ l → AFn C.P g ((AV.agg (Com.row s)) :: cap) (.v (.bool (p s)))) :
    AFn C.P 158 [.sl false (l.map Com.row), .clo (.func g) [] cap] (.v (.int .i64 (idxOf p l))) := by
  refine acall_intro Tryz.func158 rfl _ Tryz.ntmps158 (Nat.le_of_ble_eq_true rfl) _ Tryz.results158 0 rfl rfl ?_
  repeat' (first | refine walk ?_ | fail | ((first | (apply awp_cond; rfl)); all_goals (intro hc; have hp := hc; first | (simp at hp; done) | ((try simp at hp); first | (exfalso; omega) | skip))) | (apply awp_cond_any; rfl))
  (refine Awp.red (red_pure (ts := [(0, .sl false (l.map Com.row)), (1, .clo (.func g) [] cap), (7, .v (.int .i64 l.length)), (8, .v (.int .i64 ((0 : Nat) : Int)))]) ?_) ?_; ((repeat (first | exact tsok_nil | refine p_pure ?_ | refine p_eq ?_ ?_))))
  all_goals try (rw [List.length_map]; done)
  refine awp_loop (fun n σ => ∃ i : Nat, i ≤ l.length ∧ n = l.length - i ∧ (∀ s, s ∈ l.take i → p s = false) ∧ σ = ⟨[(0, .sl false (l.map Com.row)), (1, .clo (.func g) [] cap), (7, .v (.int .i64 l.length)), (8, .v (.int .i64 (i : Int)))], [], C.nh⟩) l.length ⟨0, Nat.zero_le _, rfl, (by simp), rfl⟩ ?_
  rintro n σ ⟨i, hi, rfl, hsofar, rfl⟩
  by_cases hlt : i < l.length
  · have hr := getRow (f := Com.row) hlt
    have hci := hc l[i] (List.getElem_mem _)
    repeat' (first | refine walk ?_ | (first | (apply opsx_val; apply ex_callv []; rfl; exact hg; exact hci; (case hz => exact rzl_cons (rz_pure rfl) (rzl_self hcap)); (case hfl => rfl); (case hN => exact nle rfl))) | ((first | (apply awp_cond; rfl)); all_goals (intro hc; have hp := hc; first | (simp at hp; done) | ((try simp at hp); first | (exfalso; omega) | skip))) | (apply awp_cond_any; rfl))
    all_goals try (exfalso; omega)
    · apply fin_int
      rfl
      exact (idxOf_at hlt hsofar hp).symm
    · refine ⟨l.length - (i + 1), _, by omega, red_pure (ts := [(0, .sl false (l.map Com.row)), (1, .clo (.func g) [] cap), (7, .v (.int .i64 l.length)), (8, .v (.int .i64 ((i + 1 : Nat) : Int)))]) ?_, i + 1, by omega, rfl, mem_take_succ hlt hsofar hp, rfl⟩; ((repeat (first | exact tsok_nil | refine p_pure ?_ | refine p_eq ?_ ?_)))
  obtain rfl : i = l.length := by omega
  repeat' (first | refine walk ?_ | fail | ((first | (apply awp_cond; rfl)); all_goals (intro hc; have hp := hc; first | (simp at hp; done) | ((try simp at hp); first | (exfalso; omega) | skip))) | (apply awp_cond_any; rfl))
  all_goals try (exfalso; omega)
  apply fin_int
  rfl
  exact (idxOf_none fun s hs => hsofar s (by rw [List.take_length]; exact hs)).symm
theorem a_idxKey (l : List Com) (key : Str) (hl : l.length ≤ 1000000) : AFn C.P 158 [comAV l, .clo (.func 159) [] [.fp [[.v (str key)]] 0 0]] (.v (.int .i64 (idxOf (isK key) l))) :=
  a_indexM (isK key) 159 (isFn_of Tryz.func159 rfl rfl) [.fp [[.v (str key)]] 0 0] rfl l hl (fun c _ => a_commitC c key)
def resJ (r : Jou × Int × Int) : AV := .tup [.agg r.1.row, .v (.int .i64 r.2.1), .v (.int .i64 r.2.2)]
theorem push_rows {d c : Com} {r : List Com} {x : List AV} {n n0 : Nat} (hx : x = c.row) (hn0 : n0 = r.length + 1) (hn : n = r.length + 1) : ((((d :: r).map Com.row).take n0 ++ [x]).drop 1).take n = (((d :: r) ++ [c]).drop 1).map Com.row := by
  subst hx; subst hn; subst hn0
  rw [List.take_of_length_le (l := (d :: r).map Com.row) (by simp)]
  simp [List.take_of_length_le]
theorem a_commit_push1 (j : Jou) (key : Str) (l : List Chg) (hb : JBig j) (hcb : CBig l) (hJ : JRight j) (hkk : isKey key = true) (hf : j.coms.find? (isK key) = none) (hl0 : ¬ l = []) (hbig : ¬ 1000000 < nextN j) (hz : (allT (nextN j) (nowT j) l).2.2 = 0) (h31 : ¬ 30 < j.coms.length + 1) :
    AFn C.P 129 [.agg j.row, .v (str key), chgAV l] (resJ (pushJ j ⟨nextN j, key, l⟩, nextN j, 0)) := by
  have hll := hcb.len
  have hml : (l.map Chg.row).length = l.length := List.length_map ..
  have hmj : (j.coms.map Com.row).length = j.coms.length := List.length_map ..
  have ho := a_open j hb
  rw [open_ok (jright_iff.2 hJ)] at ho
  have hk := a_isKey key
  rw [hkk] at hk
  have hlen := hJ.len
  have hN := hJ.now
  have hlast := a_jlast j (nowT j) hJ
  have hcl := a_cloned j.coms (by omega) (fun c hc => by have := comsR_few hJ.base hJ.run c hc; omega)
  have hce := a_cloneEF j.base (by have := hJ.base.len; omega)
  have hidx := a_idxKey j.coms key (by omega)
  have hi : idxOf (isK key) j.coms = -1 := by
    rcases idxOf_find (isK key) j.coms with ⟨hi, _⟩ | ⟨k, hkl, hi, hf2⟩
    · exact hi
    · rw [hf] at hf2; cases hf2
  rw [hi] at hidx
  have hLb : 0 ≤ lastN j ∧ lastN j ≤ 1000030 := by have := hJ.lo; have := hJ.hi; unfold lastN; omega
  have hall := a_all (nowT j) l (nextN j) hN.big hcb
  have hl1 : ¬ l.length = 0 := fun e => hl0 (List.eq_nil_of_length_eq_zero e)
  have hcc := a_cloneCF l (by have := allT_few hN hz; omega)
  have hp31 : pushJ j ⟨nextN j, key, l⟩ = if 30 < j.coms.length + 1 then ⟨match j.coms with | [] => j.base | d :: _ => (allT j.first j.base d.chs).1, j.first + 1, (j.coms ++ [(⟨nextN j, key, l⟩ : Com)]).drop 1⟩ else ⟨j.base, j.first, j.coms ++ [(⟨nextN j, key, l⟩ : Com)]⟩ := rfl
  generalize pushJ j ⟨nextN j, key, l⟩ = PJ at *
  generalize allT (nextN j) (nowT j) l = A at *
  obtain ⟨t1, n1, e1⟩ := A
  have hz : e1 = 0 := hz
  subst hz
  generalize hnx : nextN j = NX at *
  have hnx2 : NX = lastN j + 1 := hnx.symm
  clear hnx
  generalize lastN j = LN at *
  subst hnx2
  generalize nowT j = U at *
  rw [if_neg h31] at hp31
  subst hp31
  refine acall_intro Tryz.func129 rfl _ Tryz.ntmps129 (Nat.le_of_ble_eq_true rfl) _ Tryz.results129 0 rfl rfl ?_
  (repeat apply awp_seq); apply awp_region; (repeat' (first | apply ops_free | refine o_mv ?_ | refine o_as ?_ | refine o_ld ?_ | refine o_fa ?_ | refine o_bi ?_ | refine o_ln ?_ | refine o_ia ?_ | refine o_no ?_ | refine o_ex ?_ | refine o_fn ?_ | refine o_nc ?_ | refine o_bu ?_ | refine o_al ?_ | refine o_bx ?_ | refine o_sto ?_ | (first | fail) | refine r_nil ?_)); show Awp _ _ _ _ _
  (refine Awp.red (red_freeze 0 rfl ?_) ?_; (intro row hrow; obtain rfl := List.mem_singleton.1 hrow; rfl); refine Awp.red (red_fp 3 0 rfl rfl (Nat.le_of_ble_eq_true rfl)) ?_)
  (refine Awp.red (red_freeze 1 rfl ?_) ?_; (intro row hrow; obtain rfl := List.mem_singleton.1 hrow; rfl); refine Awp.red (red_fp 4 1 rfl rfl (Nat.le_of_ble_eq_true rfl)) ?_)
  repeat' (first | refine walk ?_ | (first | (apply to_call Tryz.func74 rfl rfl; intro hIsFn; refine o_callp hIsFn (ho ..) ?_) | (apply to_call Tryz.func118 rfl rfl; intro hIsFn; refine o_callf hIsFn (hk ..) ?_; skip) | (apply to_call Tryz.func101 rfl rfl; intro hIsFn; refine o_callp hIsFn (hce ..) ?_) | (apply to_call Tryz.func153 rfl rfl; intro hIsFn; refine o_callo ([]) hIsFn (hcl ..) ?_) | (apply to_call Tryz.func158 rfl rfl; intro hIsFn; refine o_callf hIsFn (hidx ..) ?_; skip) | (apply to_call Tryz.func152 rfl rfl; intro hIsFn; refine o_callf hIsFn (hlast ..) ?_; skip) | (apply to_call Tryz.func119 rfl rfl; intro hIsFn; refine o_callp hIsFn (hall ..) ?_) | (apply to_call Tryz.func122 rfl rfl; intro hIsFn; refine o_callp hIsFn (hcc ..) ?_) | (refine o_fzl ?_) | (refine o_appo ?_)) | ((first | (apply awp_cond; rfl)); all_goals (intro hc; have hp := hc; first | (simp at hp; done) | ((try simp at hp); first | (exfalso; omega) | skip))) | (apply awp_cond_any; rfl))
  (all_goals try (exfalso; first | omega | contradiction))
  all_goals ((refine f_pure (rs := [.cell 6 60, .tmp 7, .tmp 8]) ?_; (repeat' (first | exact rzl_nil | apply rzl_cons | exact rz_pure rfl | exact rz_ex | exact z_os | apply rz_agg | apply rz_tup | apply rz_clo | apply rz_int | apply rz_bool | apply rz_str | refine z_eq ?_ | apply rz_sl)); all_goals (rw [List.take_of_length_le (by simp), List.map_append]; rfl)))
theorem a_commit_push2 (j : Jou) (key : Str) (l : List Chg) (hb : JBig j) (hcb : CBig l) (hJ : JRight j) (hkk : isKey key = true) (hf : j.coms.find? (isK key) = none) (hl0 : ¬ l = []) (hbig : ¬ 1000000 < nextN j) (hz : (allT (nextN j) (nowT j) l).2.2 = 0) (h31 : 30 < j.coms.length + 1) :
    AFn C.P 129 [.agg j.row, .v (str key), chgAV l] (resJ (pushJ j ⟨nextN j, key, l⟩, nextN j, 0)) := by
  have hll := hcb.len
  have hml : (l.map Chg.row).length = l.length := List.length_map ..
  have hmj : (j.coms.map Com.row).length = j.coms.length := List.length_map ..
  have ho := a_open j hb
  rw [open_ok (jright_iff.2 hJ)] at ho
  have hk := a_isKey key
  rw [hkk] at hk
  have hlen := hJ.len
  have hN := hJ.now
  have hlast := a_jlast j (nowT j) hJ
  have hcl := a_cloned j.coms (by omega) (fun c hc => by have := comsR_few hJ.base hJ.run c hc; omega)
  have hce := a_cloneEF j.base (by have := hJ.base.len; omega)
  have hidx := a_idxKey j.coms key (by omega)
  have hi : idxOf (isK key) j.coms = -1 := by
    rcases idxOf_find (isK key) j.coms with ⟨hi, _⟩ | ⟨k, hkl, hi, hf2⟩
    · exact hi
    · rw [hf] at hf2; cases hf2
  rw [hi] at hidx
  have hLb : 0 ≤ lastN j ∧ lastN j ≤ 1000030 := by have := hJ.lo; have := hJ.hi; unfold lastN; omega
  have hall := a_all (nowT j) l (nextN j) hN.big hcb
  have hl1 : ¬ l.length = 0 := fun e => hl0 (List.eq_nil_of_length_eq_zero e)
  have hcc := a_cloneCF l (by have := allT_few hN hz; omega)
  have hp31 : pushJ j ⟨nextN j, key, l⟩ = if 30 < j.coms.length + 1 then ⟨match j.coms with | [] => j.base | d :: _ => (allT j.first j.base d.chs).1, j.first + 1, (j.coms ++ [(⟨nextN j, key, l⟩ : Com)]).drop 1⟩ else ⟨j.base, j.first, j.coms ++ [(⟨nextN j, key, l⟩ : Com)]⟩ := rfl
  generalize pushJ j ⟨nextN j, key, l⟩ = PJ at *
  generalize allT (nextN j) (nowT j) l = A at *
  obtain ⟨t1, n1, e1⟩ := A
  have hz : e1 = 0 := hz
  subst hz
  generalize hnx : nextN j = NX at *
  have hnx2 : NX = lastN j + 1 := hnx.symm
  clear hnx
  generalize lastN j = LN at *
  subst hnx2
  generalize nowT j = U at *
  rw [if_pos h31] at hp31
  subst hp31
  obtain ⟨jb, jf, jc⟩ := j
  cases jc with
  | nil => exact absurd h31 (by simp)
  | cons d r =>
    obtain ⟨q1, q2, -⟩ := comsR_cons hJ.run
    have q4 := (comErr_zero q1).1
    have hall2 := a_all jb d.chs jf hJ.base.big (hb.coms.each d (List.mem_cons_self ..)).chs
    have hjl := hJ.lo
    have hjh := hJ.hi
    dsimp only at *
    have hlen2 : r.length + 1 ≤ 30 := by simpa using hlen
    have h31b : 30 < r.length + 1 + 1 := by simpa using h31
    have hjl3 : 1 ≤ (Jou.mk jb jf (d :: r)).first := hjl
    have hjh3 : (Jou.mk jb jf (d :: r)).first ≤ 1000000 := hjh
    rw [q4] at q2
    generalize allT jf jb d.chs = T2 at *
    obtain ⟨t2, n2, e2⟩ := T2
    have q2 : e2 = 0 := q2
    subst q2
    clear hJ hb hi hf q1 q4
    refine acall_intro Tryz.func129 rfl _ Tryz.ntmps129 (Nat.le_of_ble_eq_true rfl) _ Tryz.results129 0 rfl rfl ?_
    (repeat apply awp_seq); apply awp_region; (repeat' (first | apply ops_free | refine o_mv ?_ | refine o_as ?_ | refine o_ld ?_ | refine o_fa ?_ | refine o_bi ?_ | refine o_ln ?_ | refine o_ia ?_ | refine o_no ?_ | refine o_ex ?_ | refine o_fn ?_ | refine o_nc ?_ | refine o_bu ?_ | refine o_al ?_ | refine o_bx ?_ | refine o_sto ?_ | (first | fail) | refine r_nil ?_)); show Awp _ _ _ _ _
    (refine Awp.red (red_freeze 0 rfl ?_) ?_; (intro row hrow; obtain rfl := List.mem_singleton.1 hrow; rfl); refine Awp.red (red_fp 3 0 rfl rfl (Nat.le_of_ble_eq_true rfl)) ?_)
    (refine Awp.red (red_freeze 1 rfl ?_) ?_; (intro row hrow; obtain rfl := List.mem_singleton.1 hrow; rfl); refine Awp.red (red_fp 4 1 rfl rfl (Nat.le_of_ble_eq_true rfl)) ?_)
    repeat' (first | refine walk ?_ | (first | (apply to_call Tryz.func74 rfl rfl; intro hIsFn; refine o_callp hIsFn (ho ..) ?_) | (apply to_call Tryz.func118 rfl rfl; intro hIsFn; refine o_callf hIsFn (hk ..) ?_; skip) | (apply to_call Tryz.func101 rfl rfl; intro hIsFn; refine o_callp hIsFn (hce ..) ?_) | (apply to_call Tryz.func153 rfl rfl; intro hIsFn; refine o_callo ([]) hIsFn (hcl ..) ?_) | (apply to_call Tryz.func158 rfl rfl; intro hIsFn; refine o_callf hIsFn (hidx ..) ?_; skip) | (apply to_call Tryz.func152 rfl rfl; intro hIsFn; refine o_callf hIsFn (hlast ..) ?_; skip) | (apply to_call Tryz.func119 rfl rfl; intro hIsFn; refine o_callp hIsFn (hall ..) ?_) | (apply to_call Tryz.func122 rfl rfl; intro hIsFn; refine o_callp hIsFn (hcc ..) ?_) | (refine o_fzl ?_) | (refine o_appo ?_) | (refine o_ixo ?_) | (refine o_slo ?_) | (apply to_call Tryz.func119 rfl rfl; intro hIsFn; refine o_callp hIsFn (hall2 ..) ?_)) | ((first | (apply awp_cond; rfl)); all_goals (intro hc; have hp := hc; first | (simp at hp; done) | ((try simp at hp); first | (exfalso; omega) | skip))) | (apply awp_cond_any; rfl))
    (all_goals try (exfalso; first | omega | contradiction))
    all_goals ((refine f_pure (rs := [.cell 6 60, .tmp 7, .tmp 8]) ?_; (repeat' (first | (exact z_osd (push_rows (n0 := (d :: r).length) rfl (by simp) (by simp)) (pures_map fun _ => rfl) (by simp; try omega)) | exact rzl_nil | apply rzl_cons | exact rz_pure rfl | exact rz_ex | exact z_os | apply rz_agg | apply rz_tup | apply rz_clo | apply rz_int | apply rz_bool | apply rz_str | refine z_eq ?_ | apply rz_sl)); all_goals trace_state))
theorem a_commit_push (j : Jou) (key : Str) (l : List Chg) (hb : JBig j) (hcb : CBig l) (hJ : JRight j) (hkk : isKey key = true) (hf : j.coms.find? (isK key) = none) (hl0 : ¬ l = []) (hbig : ¬ 1000000 < nextN j) (hz : (allT (nextN j) (nowT j) l).2.2 = 0) :
    AFn C.P 129 [.agg j.row, .v (str key), chgAV l] (resJ (pushJ j ⟨nextN j, key, l⟩, nextN j, 0)) := by
  by_cases h31 : 30 < j.coms.length + 1
  · exact a_commit_push2 j key l hb hcb hJ hkk hf hl0 hbig hz h31
  · exact a_commit_push1 j key l hb hcb hJ hkk hf hl0 hbig hz h31
theorem a_commit (j : Jou) (key : Str) (l : List Chg) (hb : JBig j) (hcb : CBig l) : AFn C.P 129 [.agg j.row, .v (str key), chgAV l] (resJ (commitR j key l)) := by
  have ho := a_open j hb
  have hk := a_isKey key
  have hll := hcb.len
  have hml : (l.map Chg.row).length = l.length := List.length_map ..
  have hmj : (j.coms.map Com.row).length = j.coms.length := List.length_map ..
  by_cases hz : jouE j = 0
  · rw [open_ok hz] at ho
    have hJ := jright_iff.1 hz
    have hlen := hJ.len
    have hE : commitR j key l = commitW j key l := by unfold commitR; rw [if_neg (by simp [hz])]
    have hN := hJ.now
    have hlast := a_jlast j (nowT j) hJ
    have hcl := a_cloned j.coms (by omega) (fun c hc => by have := comsR_few hJ.base hJ.run c hc; omega)
    have hce := a_cloneEF j.base (by have := hJ.base.len; omega)
    rw [hE]
    unfold commitW
    cases hkk : isKey key with
    | false =>
      rw [hkk] at hk
      rw [if_pos rfl]
      clear hE hlast hcl hce
      generalize nowT j = U at *
      refine acall_intro Tryz.func129 rfl _ Tryz.ntmps129 (Nat.le_of_ble_eq_true rfl) _ Tryz.results129 0 rfl rfl ?_
      repeat' (first | refine walk ?_ | (first | (apply to_call Tryz.func74 rfl rfl; intro hIsFn; refine o_callp hIsFn (ho ..) ?_) | (apply to_call Tryz.func118 rfl rfl; intro hIsFn; refine o_callf hIsFn (hk ..) ?_; skip)) | ((first | (apply awp_cond; rfl)); all_goals (intro hc; have hp := hc; first | (simp at hp; done) | ((try simp at hp); first | (exfalso; omega) | skip))) | (apply awp_cond_any; rfl))
      all_goals try (exfalso; omega)
      all_goals ((refine f_pure (rs := [.cell 6 60, .tmp 7, .tmp 8]) ?_; (repeat' (first | exact rzl_nil | apply rzl_cons | exact rz_pure rfl | exact rz_ex | exact z_os | apply rz_agg | apply rz_tup | apply rz_clo | apply rz_int | apply rz_bool | apply rz_str | refine z_eq ?_ | apply rz_sl)); all_goals trace_state))
    | true =>
      rw [hkk] at hk
      rw [if_neg (by decide)]
      have hidx := a_idxKey j.coms key (by omega)
      rcases idxOf_find (isK key) j.coms with ⟨hi, hf⟩ | ⟨k, hkl, hi, hf⟩
      · rw [hf]
        rw [hi] at hidx
        simp only
        have hidx2 := trivial
        have hLb : 0 ≤ lastN j ∧ lastN j ≤ 1000030 := by have := hJ.lo; have := hJ.hi; unfold lastN; omega
        have hall := a_all (nowT j) l (nextN j) hN.big hcb
        have hnx : nextN j = lastN j + 1 := rfl
        have hpush := a_commit_push j key l hb hcb hJ hkk hf
        generalize pushJ j ⟨nextN j, key, l⟩ = PJ at *
        generalize hAA : allT (nextN j) (nowT j) l = A at *
        rw [hnx] at *
        clear hE
        by_cases hl0 : l = []
        · subst hl0
          rw [if_pos rfl]
          generalize nowT j = U at *
          generalize lastN j = LN at *
          refine acall_intro Tryz.func129 rfl _ Tryz.ntmps129 (Nat.le_of_ble_eq_true rfl) _ Tryz.results129 0 rfl rfl ?_
          (repeat apply awp_seq); apply awp_region; (repeat' (first | apply ops_free | refine o_mv ?_ | refine o_as ?_ | refine o_ld ?_ | refine o_fa ?_ | refine o_bi ?_ | refine o_ln ?_ | refine o_ia ?_ | refine o_no ?_ | refine o_ex ?_ | refine o_fn ?_ | refine o_nc ?_ | refine o_bu ?_ | refine o_al ?_ | refine o_bx ?_ | refine o_sto ?_ | (first | fail) | refine r_nil ?_)); show Awp _ _ _ _ _
          (refine Awp.red (red_freeze 0 rfl ?_) ?_; (intro row hrow; obtain rfl := List.mem_singleton.1 hrow; rfl); refine Awp.red (red_fp 3 0 rfl rfl (Nat.le_of_ble_eq_true rfl)) ?_)
          (refine Awp.red (red_freeze 1 rfl ?_) ?_; (intro row hrow; obtain rfl := List.mem_singleton.1 hrow; rfl); refine Awp.red (red_fp 4 1 rfl rfl (Nat.le_of_ble_eq_true rfl)) ?_)
          repeat' (first | refine walk ?_ | (first | (apply to_call Tryz.func74 rfl rfl; intro hIsFn; refine o_callp hIsFn (ho ..) ?_) | (apply to_call Tryz.func118 rfl rfl; intro hIsFn; refine o_callf hIsFn (hk ..) ?_; skip) | (apply to_call Tryz.func101 rfl rfl; intro hIsFn; refine o_callp hIsFn (hce ..) ?_) | (apply to_call Tryz.func153 rfl rfl; intro hIsFn; refine o_callo ([]) hIsFn (hcl ..) ?_) | (apply to_call Tryz.func158 rfl rfl; intro hIsFn; refine o_callf hIsFn (hidx ..) ?_; skip) | (apply to_call Tryz.func152 rfl rfl; intro hIsFn; refine o_callf hIsFn (hlast ..) ?_; skip) | (apply to_call Tryz.func119 rfl rfl; intro hIsFn; refine o_callp hIsFn (hall ..) ?_) | fail) | ((first | (apply awp_cond; rfl)); all_goals (intro hc; have hp := hc; first | (simp at hp; done) | ((try simp at hp); first | (exfalso; omega) | skip))) | (apply awp_cond_any; rfl))
          (all_goals try (exfalso; first | omega | contradiction))
          all_goals ((refine f_pure (rs := [.cell 6 60, .tmp 7, .tmp 8]) ?_; (repeat' (first | exact rzl_nil | apply rzl_cons | exact rz_pure rfl | exact rz_ex | exact z_os | apply rz_agg | apply rz_tup | apply rz_clo | apply rz_int | apply rz_bool | apply rz_str | refine z_eq ?_ | apply rz_sl)); all_goals trace_state))
        · rw [if_neg hl0]
          have hl1 : ¬ l.length = 0 := fun e => hl0 (List.eq_nil_of_length_eq_zero e)
          by_cases hbig : 1000000 < lastN j + 1
          · rw [if_pos hbig]
            generalize nowT j = U at *
            generalize lastN j = LN at *
            refine acall_intro Tryz.func129 rfl _ Tryz.ntmps129 (Nat.le_of_ble_eq_true rfl) _ Tryz.results129 0 rfl rfl ?_
            (repeat apply awp_seq); apply awp_region; (repeat' (first | apply ops_free | refine o_mv ?_ | refine o_as ?_ | refine o_ld ?_ | refine o_fa ?_ | refine o_bi ?_ | refine o_ln ?_ | refine o_ia ?_ | refine o_no ?_ | refine o_ex ?_ | refine o_fn ?_ | refine o_nc ?_ | refine o_bu ?_ | refine o_al ?_ | refine o_bx ?_ | refine o_sto ?_ | (first | fail) | refine r_nil ?_)); show Awp _ _ _ _ _
            (refine Awp.red (red_freeze 0 rfl ?_) ?_; (intro row hrow; obtain rfl := List.mem_singleton.1 hrow; rfl); refine Awp.red (red_fp 3 0 rfl rfl (Nat.le_of_ble_eq_true rfl)) ?_)
            (refine Awp.red (red_freeze 1 rfl ?_) ?_; (intro row hrow; obtain rfl := List.mem_singleton.1 hrow; rfl); refine Awp.red (red_fp 4 1 rfl rfl (Nat.le_of_ble_eq_true rfl)) ?_)
            repeat' (first | refine walk ?_ | (first | (apply to_call Tryz.func74 rfl rfl; intro hIsFn; refine o_callp hIsFn (ho ..) ?_) | (apply to_call Tryz.func118 rfl rfl; intro hIsFn; refine o_callf hIsFn (hk ..) ?_; skip) | (apply to_call Tryz.func101 rfl rfl; intro hIsFn; refine o_callp hIsFn (hce ..) ?_) | (apply to_call Tryz.func153 rfl rfl; intro hIsFn; refine o_callo ([]) hIsFn (hcl ..) ?_) | (apply to_call Tryz.func158 rfl rfl; intro hIsFn; refine o_callf hIsFn (hidx ..) ?_; skip) | (apply to_call Tryz.func152 rfl rfl; intro hIsFn; refine o_callf hIsFn (hlast ..) ?_; skip) | (apply to_call Tryz.func119 rfl rfl; intro hIsFn; refine o_callp hIsFn (hall ..) ?_) | fail) | ((first | (apply awp_cond; rfl)); all_goals (intro hc; have hp := hc; first | (simp at hp; done) | ((try simp at hp); first | (exfalso; omega) | skip))) | (apply awp_cond_any; rfl))
            (all_goals try (exfalso; first | omega | contradiction))
            all_goals ((refine f_pure (rs := [.cell 6 60, .tmp 7, .tmp 8]) ?_; (repeat' (first | exact rzl_nil | apply rzl_cons | exact rz_pure rfl | exact rz_ex | exact z_os | apply rz_agg | apply rz_tup | apply rz_clo | apply rz_int | apply rz_bool | apply rz_str | refine z_eq ?_ | apply rz_sl)); all_goals trace_state))
          · rw [if_neg hbig]
            obtain ⟨t1, n1, e1⟩ := A
            by_cases he1 : e1 = 0
            · subst he1
              rw [if_neg (by simp)]
              exact hpush hl0 hbig rfl
            · rw [if_pos he1]
              generalize nowT j = U at *
              generalize lastN j = LN at *
              refine acall_intro Tryz.func129 rfl _ Tryz.ntmps129 (Nat.le_of_ble_eq_true rfl) _ Tryz.results129 0 rfl rfl ?_
              (repeat apply awp_seq); apply awp_region; (repeat' (first | apply ops_free | refine o_mv ?_ | refine o_as ?_ | refine o_ld ?_ | refine o_fa ?_ | refine o_bi ?_ | refine o_ln ?_ | refine o_ia ?_ | refine o_no ?_ | refine o_ex ?_ | refine o_fn ?_ | refine o_nc ?_ | refine o_bu ?_ | refine o_al ?_ | refine o_bx ?_ | refine o_sto ?_ | (first | fail) | refine r_nil ?_)); show Awp _ _ _ _ _
              (refine Awp.red (red_freeze 0 rfl ?_) ?_; (intro row hrow; obtain rfl := List.mem_singleton.1 hrow; rfl); refine Awp.red (red_fp 3 0 rfl rfl (Nat.le_of_ble_eq_true rfl)) ?_)
              (refine Awp.red (red_freeze 1 rfl ?_) ?_; (intro row hrow; obtain rfl := List.mem_singleton.1 hrow; rfl); refine Awp.red (red_fp 4 1 rfl rfl (Nat.le_of_ble_eq_true rfl)) ?_)
              repeat' (first | refine walk ?_ | (first | (apply to_call Tryz.func74 rfl rfl; intro hIsFn; refine o_callp hIsFn (ho ..) ?_) | (apply to_call Tryz.func118 rfl rfl; intro hIsFn; refine o_callf hIsFn (hk ..) ?_; skip) | (apply to_call Tryz.func101 rfl rfl; intro hIsFn; refine o_callp hIsFn (hce ..) ?_) | (apply to_call Tryz.func153 rfl rfl; intro hIsFn; refine o_callo ([]) hIsFn (hcl ..) ?_) | (apply to_call Tryz.func158 rfl rfl; intro hIsFn; refine o_callf hIsFn (hidx ..) ?_; skip) | (apply to_call Tryz.func152 rfl rfl; intro hIsFn; refine o_callf hIsFn (hlast ..) ?_; skip) | (apply to_call Tryz.func119 rfl rfl; intro hIsFn; refine o_callp hIsFn (hall ..) ?_) | fail) | ((first | (apply awp_cond; rfl)); all_goals (intro hc; have hp := hc; first | (simp at hp; done) | ((try simp at hp); first | (exfalso; omega) | skip))) | (apply awp_cond_any; rfl))
              (all_goals try (exfalso; first | omega | contradiction))
              all_goals ((refine f_pure (rs := [.cell 6 60, .tmp 7, .tmp 8]) ?_; (repeat' (first | exact rzl_nil | apply rzl_cons | exact rz_pure rfl | exact rz_ex | exact z_os | apply rz_agg | apply rz_tup | apply rz_clo | apply rz_int | apply rz_bool | apply rz_str | refine z_eq ?_ | apply rz_sl)); all_goals trace_state))
      · rw [hf]
        rw [hi] at hidx
        have hr := getRow (f := Com.row) hkl
        simp only
        clear hE
        generalize nowT j = U at *
        refine acall_intro Tryz.func129 rfl _ Tryz.ntmps129 (Nat.le_of_ble_eq_true rfl) _ Tryz.results129 0 rfl rfl ?_
        (repeat apply awp_seq); apply awp_region; (repeat' (first | apply ops_free | refine o_mv ?_ | refine o_as ?_ | refine o_ld ?_ | refine o_fa ?_ | refine o_bi ?_ | refine o_ln ?_ | refine o_ia ?_ | refine o_no ?_ | refine o_ex ?_ | refine o_fn ?_ | refine o_nc ?_ | refine o_bu ?_ | refine o_al ?_ | refine o_bx ?_ | refine o_sto ?_ | (first | fail) | refine r_nil ?_)); show Awp _ _ _ _ _
        (refine Awp.red (red_freeze 0 rfl ?_) ?_; (intro row hrow; obtain rfl := List.mem_singleton.1 hrow; rfl); refine Awp.red (red_fp 3 0 rfl rfl (Nat.le_of_ble_eq_true rfl)) ?_)
        (refine Awp.red (red_freeze 1 rfl ?_) ?_; (intro row hrow; obtain rfl := List.mem_singleton.1 hrow; rfl); refine Awp.red (red_fp 4 1 rfl rfl (Nat.le_of_ble_eq_true rfl)) ?_)
        repeat' (first | refine walk ?_ | (first | (apply to_call Tryz.func74 rfl rfl; intro hIsFn; refine o_callp hIsFn (ho ..) ?_) | (apply to_call Tryz.func118 rfl rfl; intro hIsFn; refine o_callf hIsFn (hk ..) ?_; skip) | (apply to_call Tryz.func101 rfl rfl; intro hIsFn; refine o_callp hIsFn (hce ..) ?_) | (apply to_call Tryz.func153 rfl rfl; intro hIsFn; refine o_callo ([]) hIsFn (hcl ..) ?_) | (apply to_call Tryz.func158 rfl rfl; intro hIsFn; refine o_callf hIsFn (hidx ..) ?_; skip)) | ((first | (apply awp_cond; rfl)); all_goals (intro hc; have hp := hc; first | (simp at hp; done) | ((try simp at hp); first | (exfalso; omega) | skip))) | (apply awp_cond_any; rfl))
        all_goals try (exfalso; omega)
        all_goals ((refine f_pure (rs := [.cell 6 60, .tmp 7, .tmp 8]) ?_; (repeat' (first | exact rzl_nil | apply rzl_cons | exact rz_pure rfl | exact rz_ex | exact z_os | apply rz_agg | apply rz_tup | apply rz_clo | apply rz_int | apply rz_bool | apply rz_str | refine z_eq ?_ | apply rz_sl)); all_goals trace_state))
  · rw [open_bad hz] at ho
    unfold commitR
    rw [if_pos hz]
    generalize jouE j = E at *
    refine acall_intro Tryz.func129 rfl _ Tryz.ntmps129 (Nat.le_of_ble_eq_true rfl) _ Tryz.results129 0 rfl rfl ?_
    repeat' (first | refine walk ?_ | (first | (apply to_call Tryz.func74 rfl rfl; intro hIsFn; refine o_callp hIsFn (ho ..) ?_)) | ((first | (apply awp_cond; rfl)); all_goals (intro hc; have hp := hc; first | (simp at hp; done) | ((try simp at hp); first | (exfalso; omega) | skip))) | (apply awp_cond_any; rfl))
    all_goals try (exfalso; omega)
    all_goals ((refine f_pure (rs := [.cell 6 60, .tmp 7, .tmp 8]) ?_; (repeat' (first | exact rzl_nil | apply rzl_cons | exact rz_pure rfl | exact rz_ex | exact z_os | apply rz_agg | apply rz_tup | apply rz_clo | apply rz_int | apply rz_bool | apply rz_str | refine z_eq ?_ | apply rz_sl)); all_goals trace_state))
end Go.Proofs.YtiljlcgmcmjcoaaGreatDoor

/- Journals in the abstract layer, 8: the reference's CommitOf. -/
set_option linter.unusedSimpArgs false
set_option linter.unnecessarySimpa false
set_option linter.unusedVariables false
set_option maxHeartbeats 1000000
namespace Go.Proofs.YtiljlcgmcmjcoaaGreatDoor
open Go.Ab Go.RowKit
set_option maxRecDepth 10000
attribute [local irreducible] Awp Ops OpsX Wanted Red ExOk Go.Ab.Fin ACall Rz RzL RzRows Enters ResOk RenV RenVL ArgV ArgVL

end Go.Proofs.YtiljlcgmcmjcoaaGreatDoor

/- Journals in the abstract layer, 8b: the reference's ReadOf. -/
set_option linter.unusedSimpArgs false
set_option linter.unnecessarySimpa false
set_option linter.unusedVariables false
set_option maxHeartbeats 1000000
namespace Go.Proofs.YtiljlcgmcmjcoaaGreatDoor
open Go.Ab Go.RowKit
set_option maxRecDepth 10000
attribute [local irreducible] Awp Ops OpsX Wanted Red ExOk Go.Ab.Fin ACall Rz RzL RzRows Enters ResOk RenV RenVL ArgV ArgVL

end Go.Proofs.YtiljlcgmcmjcoaaGreatDoor

/- Journals in the abstract layer, 11: laws. -/
set_option linter.unusedSimpArgs false
set_option linter.unnecessarySimpa false
set_option linter.unusedVariables false
set_option maxHeartbeats 1000000
namespace Go.Proofs.YtiljlcgmcmjcoaaGreatDoor
open Go.Ab Go.RowKit
set_option maxRecDepth 10000
attribute [local irreducible] Awp Ops OpsX Wanted Red ExOk Go.Ab.Fin ACall Rz RzL RzRows Enters ResOk RenV RenVL ArgV ArgVL

end Go.Proofs.YtiljlcgmcmjcoaaGreatDoor
