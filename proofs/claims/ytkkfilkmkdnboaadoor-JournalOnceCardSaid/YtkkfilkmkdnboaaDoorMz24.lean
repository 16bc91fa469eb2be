import Derived.Test.YtkkfilkmkdnboaaDoorMz22
import Derived.Test.YtkkfilkmkdnboaaDoorMz23
/- Journals in the abstract layer, 3: copies, the last number, Check, Tree. -/
set_option linter.unusedSimpArgs false
set_option linter.unnecessarySimpa false
set_option linter.unusedVariables false
namespace Go.Ab
theorem z_osd {h : Nat → HB} {n off len : Nat} {ex : Bool} {k : Nat} {rows rows' : List (List AV)} (he : (rows.drop off).take len = rows') (hp : ∀ row, row ∈ rows' → AV.pure.pureL row = true) (hl : off + len ≤ rows.length) (hn : h n = .own ex k rows := by rfl) : Rz h (.os n off len) (.sl false rows') :=
  by subst he; exact rz_os hn hl (rzrows_pure hp)
theorem set_same {α β : Type} {f : α → β} {l : List α} {i : Nat} (h : i < l.length) : (l.map f).set i (f l[i]) = l.map f := by
  rw [← List.map_set, List.set_getElem_self]
end Go.Ab
set_option maxHeartbeats 1000000
namespace Go.Proofs.YtkkfilkmkdnboaaDoor
open Go.Ab Go.RowKit
set_option maxRecDepth 10000
attribute [local irreducible] Awp Ops OpsX Wanted Red ExOk Go.Ab.Fin ACall Rz RzL RzRows Enters ResOk RenV RenVL ArgV ArgVL

theorem a_cloneM (l : List Com) (hl : l.length ≤ 1000000) :
    ACall C.P 77 [comAV l] [] (.os 0 0 l.length) [.own false 3 (l.map Com.row)] := by
  by_cases h0 : l = []
  · subst h0
    refine acall_intro Tryd.func77 rfl _ Tryd.ntmps77 (Nat.le_of_ble_eq_true rfl) _ Tryd.results77 0 rfl rfl ?_
    repeat' (first | refine walk ?_ | (first | (refine o_fzl ?_) | (refine o_appn ?_) | (refine o_isnil ?_)) | ((first | (apply awp_cond; rfl)); all_goals (intro hc; have hp := hc; first | (simp at hp; done) | ((try simp at hp); first | (exfalso; omega) | skip))) | (apply awp_cond_any; rfl))
    · (refine fin_red (C := C) (red_nil (C := C) 2 3 rfl (Nat.zero_le _)) ?_)
      (apply fin_ownr (rs := [.tmp 2]) [(0, 0)] 1; (case hr => (repeat (first | exact resok_nil | (apply resok_tmp; rfl) | (apply resok_cell; rfl; rfl; rfl; rfl; rfl)))); (case hL => rfl); (case hh => (repeat (first | exact hsok_nil | refine q_id ?_ | refine q_idx ?_ ?_)); all_goals skip); (case hi => first | exact (rfl : _ = ([] : List (Nat × Nat))) | exact (rfl : _ = [((0 : Nat), (0 : Nat))]) | exact (rfl : _ = [((0 : Nat), (0 : Nat)), (1, 1)])); (case hz => first | rfl | (simp [pack, AV.ren, AV.ren.renL, lookN, getT, enumT]; done) | (simp [pack, AV.ren, AV.ren.renL, lookN, getT, enumT, *]; done) | skip))
    · (apply fin_ownr (rs := [.tmp 2]) [(0, 0)] 1; (case hr => (repeat (first | exact resok_nil | (apply resok_tmp; rfl) | (apply resok_cell; rfl; rfl; rfl; rfl; rfl)))); (case hL => rfl); (case hh => (repeat (first | exact hsok_nil | refine q_id ?_ | refine q_idx ?_ ?_)); all_goals skip); (case hi => first | exact (rfl : _ = ([] : List (Nat × Nat))) | exact (rfl : _ = [((0 : Nat), (0 : Nat))]) | exact (rfl : _ = [((0 : Nat), (0 : Nat)), (1, 1)])); (case hz => first | rfl | (simp [pack, AV.ren, AV.ren.renL, lookN, getT, enumT]; done) | (simp [pack, AV.ren, AV.ren.renL, lookN, getT, enumT, *]; done) | skip))
  · refine acall_intro Tryd.func77 rfl _ Tryd.ntmps77 (Nat.le_of_ble_eq_true rfl) _ Tryd.results77 0 rfl rfl ?_
    repeat' (first | refine walk ?_ | (first | (refine o_fzl ?_) | (refine o_appn ?_) | (apply opsx_val; apply ex_notnil; rfl; exact (fun h => h0 (List.map_eq_nil_iff.1 h)); rfl; rfl; (first | exact .inl rfl | exact .inr rfl); exact nle rfl)) | ((first | (apply awp_cond; rfl)); all_goals (intro hc; have hp := hc; first | (simp at hp; done) | ((try simp at hp); first | (exfalso; omega) | skip))) | (apply awp_cond_any; rfl))
    (apply fin_ownr (rs := [.tmp 2]) [(0, 0)] 1; (case hr => (repeat (first | exact resok_nil | (apply resok_tmp; rfl) | (apply resok_cell; rfl; rfl; rfl; rfl; rfl)))); (case hL => rfl); (case hh => (repeat (first | exact hsok_nil | refine q_id ?_ | refine q_idx ?_ ?_)); all_goals skip); (case hi => first | exact (rfl : _ = ([] : List (Nat × Nat))) | exact (rfl : _ = [((0 : Nat), (0 : Nat))]) | exact (rfl : _ = [((0 : Nat), (0 : Nat)), (1, 1)])); (case hz => first | rfl | (simp [pack, AV.ren, AV.ren.renL, lookN, getT, enumT]; done) | (simp [pack, AV.ren, AV.ren.renL, lookN, getT, enumT, *]; done) | skip))
theorem a_cloned (l : List Com) (hl : l.length ≤ 1000000) (hc : ∀ c, c ∈ l → c.chs.length ≤ 1000000) :
    ACall C.P 44 [comAV l] [] (.os 0 0 l.length) [.own false 3 (l.map Com.row)] := by
  have h1 := a_cloneM l hl
  refine acall_intro Tryd.func44 rfl _ Tryd.ntmps44 (Nat.le_of_ble_eq_true rfl) _ Tryd.results44 0 rfl rfl ?_
  repeat' (first | refine walk ?_ | (first | (apply to_call Tryd.func77 rfl rfl; intro hIsFn; refine o_callo ([]) hIsFn (h1 ..) ?_)) | ((first | (apply awp_cond; rfl)); all_goals (intro hc; have hp := hc; first | (simp at hp; done) | ((try simp at hp); first | (exfalso; omega) | skip))) | (apply awp_cond_any; rfl))
  all_goals try (exfalso; omega)
  (refine Awp.red (red_ren (τ := ⟨[(0, .os 0 0 l.length), (7, .os 0 0 l.length), (8, .v (.int .i64 l.length)), (9, .v (.int .i64 ((0 : Nat) : Int)))], [(0, .own false 3 (l.map Com.row))], 1⟩) [(0, 0)] rfl ?gts ?ghs) ?gmain; (case gts => (repeat (first | exact tsok_nil | refine p_pure ?_ | refine p_op ?_ | refine p_os ?_ | refine p_eq ?_ ?_))); (case ghs => (repeat (first | exact hsok_nil | refine q_id ?_ | refine q_idx ?_ ?_))))
  refine awp_loop (fun n σ => ∃ i : Nat, i ≤ l.length ∧ n = l.length - i ∧ (True) ∧ σ = ⟨[(0, .os 0 0 l.length), (7, .os 0 0 l.length), (8, .v (.int .i64 l.length)), (9, .v (.int .i64 (i : Int)))], [(0, .own false 3 (l.map Com.row))], 1⟩) l.length ⟨0, Nat.zero_le _, rfl, trivial, rfl⟩ ?_
  rintro n σ ⟨i, hi, rfl, -, rfl⟩
  by_cases hlt : i < l.length
  · have hr := getRow (f := Com.row) hlt
    have hcc := a_cloneCF l[i].chs (hc _ (List.getElem_mem _))
    have hss := set_same (f := Com.row) hlt
    repeat' (first | refine walk ?_ | (first | (refine o_ixo ?_) | (apply to_call Tryd.func49 rfl rfl; intro hIsFn; refine o_callp hIsFn (hcc ..) ?_)) | ((first | (apply awp_cond; rfl)); all_goals (intro hc; have hp := hc; first | (simp at hp; done) | ((try simp at hp); first | (exfalso; omega) | skip))) | (apply awp_cond_any; rfl))
    all_goals try (exfalso; omega)
    refine ⟨l.length - (i + 1), _, by omega, red_ren (τ := ⟨[(0, .os 0 0 l.length), (7, .os 0 0 l.length), (8, .v (.int .i64 l.length)), (9, .v (.int .i64 ((i + 1 : Nat) : Int)))], [(0, .own false 3 (l.map Com.row))], 1⟩) [(0, 0)] rfl ?gts ?ghs, i + 1, by omega, rfl, trivial, rfl⟩; (case gts => (repeat (first | exact tsok_nil | refine p_pure ?_ | refine p_op ?_ | refine p_os ?_ | refine p_eq ?_ ?_)); all_goals exact hss); (case ghs => (repeat (first | exact hsok_nil | refine q_id ?_ | refine q_idx ?_ ?_)); all_goals exact hss)
  obtain rfl : i = l.length := by omega
  repeat' (first | refine walk ?_ | fail | ((first | (apply awp_cond; rfl)); all_goals (intro hc; have hp := hc; first | (simp at hp; done) | ((try simp at hp); first | (exfalso; omega) | skip))) | (apply awp_cond_any; rfl))
  all_goals try (exfalso; omega)
  (apply fin_ownr (rs := [.tmp 2]) [(0, 0)] 1; (case hr => (repeat (first | exact resok_nil | (apply resok_tmp; rfl) | (apply resok_cell; rfl; rfl; rfl; rfl; rfl)))); (case hL => rfl); (case hh => (repeat (first | exact hsok_nil | refine q_id ?_ | refine q_idx ?_ ?_)); all_goals trace_state); (case hi => first | exact (rfl : _ = ([] : List (Nat × Nat))) | exact (rfl : _ = [((0 : Nat), (0 : Nat))]) | exact (rfl : _ = [((0 : Nat), (0 : Nat)), (1, 1)])); (case hz => first | rfl | (simp [pack, AV.ren, AV.ren.renL, lookN, getT, enumT]; done) | (simp [pack, AV.ren, AV.ren.renL, lookN, getT, enumT, *]; done) | trace_state))
theorem a_jlast (j : Jou) (t : List Ent) (h : JRight j) : AFn C.P 47 [.fp [keepRow j t] 0 0] (.v (.int .i64 (lastN j))) := by
  have h1 := h.lo
  have h2 := h.hi
  have h3 := h.len
  have hml : (j.coms.map Com.row).length = j.coms.length := List.length_map ..
  refine acall_intro Tryd.func47 rfl _ Tryd.ntmps47 (Nat.le_of_ble_eq_true rfl) _ Tryd.results47 0 rfl rfl ?_
  repeat' (first | refine walk ?_ | fail | ((first | (apply awp_cond; rfl)); all_goals (intro hc; have hp := hc; first | (simp at hp; done) | ((try simp at hp); first | (exfalso; omega) | skip))) | (apply awp_cond_any; rfl))
  all_goals try (exfalso; omega)
  apply fin_int
  rfl
  unfold lastN
  rw [hml]
theorem a_jcheck (j : Jou) (hb : JBig j) : AFn C.P 21 [.agg j.row] (.v (.int .i64 (jouE j))) := by
  have h1 := a_open j hb
  have h2 := openP_err j
  by_cases hz : jouE j = 0
  · rw [openP_now hz] at h1
    rw [hz]
    refine acall_intro Tryd.func21 rfl _ Tryd.ntmps21 (Nat.le_of_ble_eq_true rfl) _ Tryd.results21 0 rfl rfl ?_
    repeat' (first | refine walk ?_ | (first | (apply to_call Tryd.func41 rfl rfl; intro hIsFn; refine o_callp hIsFn (h1 ..) ?_)) | ((first | (apply awp_cond; rfl)); all_goals (intro hc; have hp := hc; first | (simp at hp; done) | ((try simp at hp); first | (exfalso; omega) | skip))) | (apply awp_cond_any; rfl))
    apply fin_int
    rfl
    rfl
  · have h3 : openR j (openP j) = .tup [.v (.pointer none), .v (.int .i64 (jouE j))] := by unfold openR; rw [h2, if_neg hz]
    rw [h3] at h1
    refine acall_intro Tryd.func21 rfl _ Tryd.ntmps21 (Nat.le_of_ble_eq_true rfl) _ Tryd.results21 0 rfl rfl ?_
    repeat' (first | refine walk ?_ | (first | (apply to_call Tryd.func41 rfl rfl; intro hIsFn; refine o_callp hIsFn (h1 ..) ?_)) | ((first | (apply awp_cond; rfl)); all_goals (intro hc; have hp := hc; first | (simp at hp; done) | ((try simp at hp); first | (exfalso; omega) | skip))) | (apply awp_cond_any; rfl))
    apply fin_int
    rfl
    rfl
def treeJ (j : Jou) : List Ent × Int := if jouE j = 0 then (nowT j, 0) else ([], jouE j)
theorem open_bad {j : Jou} (h : ¬ jouE j = 0) : openR j (openP j) = .tup [.v (.pointer none), .v (.int .i64 (jouE j))] := by unfold openR; rw [openP_err, if_neg h]
theorem open_ok {j : Jou} (h : jouE j = 0) : openR j (openP j) = .tup [.fp [keepRow j (nowT j)] 0 0, .v (.int .i64 0)] := by rw [openP_now h]; rfl
theorem a_jtree (j : Jou) (hb : JBig j) : AFn C.P 22 [.agg j.row] (.tup [entAV (treeJ j).1, .v (.int .i64 (treeJ j).2)]) := by
  have h1 := a_open j hb
  by_cases hz : jouE j = 0
  · rw [open_ok hz] at h1
    have hR := (jright_iff.1 hz).now
    have h2 := a_cloneEF (nowT j) (by have := hR.len; omega)
    unfold treeJ
    rw [if_pos hz]
    generalize nowT j = U at *
    refine acall_intro Tryd.func22 rfl _ Tryd.ntmps22 (Nat.le_of_ble_eq_true rfl) _ Tryd.results22 0 rfl rfl ?_
    repeat' (first | refine walk ?_ | (first | (apply to_call Tryd.func41 rfl rfl; intro hIsFn; refine o_callp hIsFn (h1 ..) ?_) | (apply to_call Tryd.func43 rfl rfl; intro hIsFn; refine o_callp hIsFn (h2 ..) ?_)) | ((first | (apply awp_cond; rfl)); all_goals (intro hc; have hp := hc; first | (simp at hp; done) | ((try simp at hp); first | (exfalso; omega) | skip))) | (apply awp_cond_any; rfl))
    all_goals try (exfalso; omega)
    (refine f_pure (rs := [.tmp 2, .tmp 3]) ?_; (repeat' (first | exact rzl_nil | apply rzl_cons | exact rz_pure rfl | exact rz_ex | exact z_os | apply rz_agg | apply rz_tup | apply rz_clo | apply rz_int | apply rz_bool | apply rz_str | refine z_eq ?_ | apply rz_sl)); all_goals trace_state)
  · rw [open_bad hz] at h1
    unfold treeJ
    rw [if_neg hz]
    generalize jouE j = E at *
    refine acall_intro Tryd.func22 rfl _ Tryd.ntmps22 (Nat.le_of_ble_eq_true rfl) _ Tryd.results22 0 rfl rfl ?_
    repeat' (first | refine walk ?_ | (first | (apply to_call Tryd.func41 rfl rfl; intro hIsFn; refine o_callp hIsFn (h1 ..) ?_)) | ((first | (apply awp_cond; rfl)); all_goals (intro hc; have hp := hc; first | (simp at hp; done) | ((try simp at hp); first | (exfalso; omega) | skip))) | (apply awp_cond_any; rfl))
    all_goals try (exfalso; omega)
    (refine f_pure (rs := [.tmp 2, .tmp 3]) ?_; (repeat' (first | exact rzl_nil | apply rzl_cons | exact rz_pure rfl | exact rz_ex | exact z_os | apply rz_agg | apply rz_tup | apply rz_clo | apply rz_int | apply rz_bool | apply rz_str | refine z_eq ?_ | apply rz_sl)); all_goals trace_state)
end Go.Proofs.YtkkfilkmkdnboaaDoor

/- Journals in the abstract layer, 5: Read. -/
set_option linter.unusedSimpArgs false
set_option linter.unnecessarySimpa false
set_option linter.unusedVariables false
set_option maxHeartbeats 1000000
namespace Go.Proofs.YtkkfilkmkdnboaaDoor
open Go.Ab Go.RowKit
set_option maxRecDepth 10000
attribute [local irreducible] Awp Ops OpsX Wanted Red ExOk Go.Ab.Fin ACall Rz RzL RzRows Enters ResOk RenV RenVL ArgV ArgVL

def resPg (r : Pag × Int) : AV := .tup [.agg r.1.row, .v (.int .i64 r.2)]
theorem rows_part {α : Type} {f : α → List AV} {l : List α} {k m : Nat} : (((((l.map f).take (l.map f).length).drop k).take m).drop 0) = ((l.drop k).take m).map f := by
  rw [List.take_length]; simp
theorem a_read (j : Jou) (cursor most : Int) (hb : JBig j) : AFn C.P 18 [.agg j.row, .v (.int .i64 cursor), .v (.int .i64 most)] (resPg (readR j cursor most)) := by
  have ho := a_open j hb
  have hmj : (j.coms.map Com.row).length = j.coms.length := List.length_map ..
  by_cases hz : jouE j = 0
  · rw [open_ok hz] at ho
    have hJ := jright_iff.1 hz
    have hlen := hJ.len
    have hlo := hJ.lo
    have hhi := hJ.hi
    have hN := hJ.now
    have hlast := a_jlast j (nowT j) hJ
    have hce := a_cloneEF (nowT j) (by have := hN.len; omega)
    have hE : readR j cursor most = readW j cursor most := by unfold readR; rw [if_neg (by simp [hz])]
    have hL : lastN j = j.first + j.coms.length - 1 := rfl
    have hfew := comsR_few hJ.base hJ.run
    have hrk : ∀ row, row ∈ j.coms.map Com.row → row.length = 3 := fun row hr => by obtain ⟨x, _, rfl⟩ := List.mem_map.1 hr; rfl
    rw [hE]
    unfold readW
    clear hE hz
    generalize nowT j = U at *
    generalize lastN j = LN at *
    by_cases h1 : most < 1 ∨ 10 < most ∨ cursor < 0
    · rw [if_pos h1]
      refine acall_intro Tryd.func18 rfl _ Tryd.ntmps18 (Nat.le_of_ble_eq_true rfl) _ Tryd.results18 0 rfl rfl ?_
      (repeat apply awp_seq); apply awp_region; (repeat' (first | apply ops_free | refine o_mv ?_ | refine o_as ?_ | refine o_ld ?_ | refine o_fa ?_ | refine o_bi ?_ | refine o_pk ?_ | refine o_ln ?_ | refine o_ex ?_ | refine o_nc ?_ | refine o_bu ?_ | refine o_al ?_ | refine o_bx ?_ | refine o_sto ?_ | (first | fail) | refine r_nil ?_ | refine g_on_t ?_ | refine g_on_f ?_ | refine g_off_t ?_ | refine g_off_f ?_ | refine g_unw ?_ | refine g_yes ?_ | refine g_no_t ?_ | refine g_no_f ?_ | ((first | refine g_sp_t ?_ ?_ | refine g_sp_f ?_ ?_); all_goals (intro hc; have hp := hc; first | (simp at hp; done) | ((try simp at hp); first | (exfalso; omega) | skip))))); show Awp _ _ _ _ _
      (refine Awp.red (red_freeze 0 rfl ?_) ?_; (intro row hrow; obtain rfl := List.mem_singleton.1 hrow; rfl); refine Awp.red (red_fp 3 0 rfl rfl (Nat.le_of_ble_eq_true rfl)) ?_)
      repeat' (first | refine walk ?_ | (first | (apply to_call Tryd.func41 rfl rfl; intro hIsFn; refine o_callp hIsFn (ho ..) ?_) | (apply to_call Tryd.func47 rfl rfl; intro hIsFn; refine o_callf hIsFn (hlast ..) ?_; skip) | (apply to_call Tryd.func43 rfl rfl; intro hIsFn; refine o_callp hIsFn (hce ..) ?_) | fail) | ((first | (apply ops_split_t; rfl; rfl; exact nle rfl) | (apply ops_split_f; rfl; rfl; exact nle rfl) | (apply awp_cond; rfl)); all_goals (intro hc; have hp := hc; first | (simp at hp; done) | ((try simp at hp); first | (exfalso; omega) | skip))) | (apply awp_cond_any; rfl))
      (all_goals try (exfalso; first | omega | contradiction))
      all_goals ((refine f_pure (rs := [.cell 6 35, .tmp 7]) ?_; (repeat' (first | exact rzl_nil | apply rzl_cons | exact rz_pure rfl | exact rz_ex | exact z_os | apply rz_agg | apply rz_tup | apply rz_clo | apply rz_int | apply rz_bool | apply rz_str | refine z_eq ?_ | apply rz_sl)); all_goals trace_state))
    · rw [if_neg h1]
      by_cases h2 : LN < cursor
      · rw [if_pos h2]
        refine acall_intro Tryd.func18 rfl _ Tryd.ntmps18 (Nat.le_of_ble_eq_true rfl) _ Tryd.results18 0 rfl rfl ?_
        (repeat apply awp_seq); apply awp_region; (repeat' (first | apply ops_free | refine o_mv ?_ | refine o_as ?_ | refine o_ld ?_ | refine o_fa ?_ | refine o_bi ?_ | refine o_pk ?_ | refine o_ln ?_ | refine o_ex ?_ | refine o_nc ?_ | refine o_bu ?_ | refine o_al ?_ | refine o_bx ?_ | refine o_sto ?_ | (first | fail) | refine r_nil ?_ | refine g_on_t ?_ | refine g_on_f ?_ | refine g_off_t ?_ | refine g_off_f ?_ | refine g_unw ?_ | refine g_yes ?_ | refine g_no_t ?_ | refine g_no_f ?_ | ((first | refine g_sp_t ?_ ?_ | refine g_sp_f ?_ ?_); all_goals (intro hc; have hp := hc; first | (simp at hp; done) | ((try simp at hp); first | (exfalso; omega) | skip))))); show Awp _ _ _ _ _
        (refine Awp.red (red_freeze 0 rfl ?_) ?_; (intro row hrow; obtain rfl := List.mem_singleton.1 hrow; rfl); refine Awp.red (red_fp 3 0 rfl rfl (Nat.le_of_ble_eq_true rfl)) ?_)
        repeat' (first | refine walk ?_ | (first | (apply to_call Tryd.func41 rfl rfl; intro hIsFn; refine o_callp hIsFn (ho ..) ?_) | (apply to_call Tryd.func47 rfl rfl; intro hIsFn; refine o_callf hIsFn (hlast ..) ?_; skip) | (apply to_call Tryd.func43 rfl rfl; intro hIsFn; refine o_callp hIsFn (hce ..) ?_) | fail) | ((first | (apply ops_split_t; rfl; rfl; exact nle rfl) | (apply ops_split_f; rfl; rfl; exact nle rfl) | (apply awp_cond; rfl)); all_goals (intro hc; have hp := hc; first | (simp at hp; done) | ((try simp at hp); first | (exfalso; omega) | skip))) | (apply awp_cond_any; rfl))
        (all_goals try (exfalso; first | omega | contradiction))
        all_goals ((refine f_pure (rs := [.cell 6 35, .tmp 7]) ?_; (repeat' (first | exact rzl_nil | apply rzl_cons | exact rz_pure rfl | exact rz_ex | exact z_os | apply rz_agg | apply rz_tup | apply rz_clo | apply rz_int | apply rz_bool | apply rz_str | refine z_eq ?_ | apply rz_sl)); all_goals trace_state))
      · rw [if_neg h2]
        by_cases h3 : cursor < j.first - 1
        · rw [if_pos h3]
          refine acall_intro Tryd.func18 rfl _ Tryd.ntmps18 (Nat.le_of_ble_eq_true rfl) _ Tryd.results18 0 rfl rfl ?_
          (repeat apply awp_seq); apply awp_region; (repeat' (first | apply ops_free | refine o_mv ?_ | refine o_as ?_ | refine o_ld ?_ | refine o_fa ?_ | refine o_bi ?_ | refine o_pk ?_ | refine o_ln ?_ | refine o_ex ?_ | refine o_nc ?_ | refine o_bu ?_ | refine o_al ?_ | refine o_bx ?_ | refine o_sto ?_ | (first | fail) | refine r_nil ?_ | refine g_on_t ?_ | refine g_on_f ?_ | refine g_off_t ?_ | refine g_off_f ?_ | refine g_unw ?_ | refine g_yes ?_ | refine g_no_t ?_ | refine g_no_f ?_ | ((first | refine g_sp_t ?_ ?_ | refine g_sp_f ?_ ?_); all_goals (intro hc; have hp := hc; first | (simp at hp; done) | ((try simp at hp); first | (exfalso; omega) | skip))))); show Awp _ _ _ _ _
          (refine Awp.red (red_freeze 0 rfl ?_) ?_; (intro row hrow; obtain rfl := List.mem_singleton.1 hrow; rfl); refine Awp.red (red_fp 3 0 rfl rfl (Nat.le_of_ble_eq_true rfl)) ?_)
          repeat' (first | refine walk ?_ | (first | (apply to_call Tryd.func41 rfl rfl; intro hIsFn; refine o_callp hIsFn (ho ..) ?_) | (apply to_call Tryd.func47 rfl rfl; intro hIsFn; refine o_callf hIsFn (hlast ..) ?_; skip) | (apply to_call Tryd.func43 rfl rfl; intro hIsFn; refine o_callp hIsFn (hce ..) ?_) | fail) | ((first | (apply ops_split_t; rfl; rfl; exact nle rfl) | (apply ops_split_f; rfl; rfl; exact nle rfl) | (apply awp_cond; rfl)); all_goals (intro hc; have hp := hc; first | (simp at hp; done) | ((try simp at hp); first | (exfalso; omega) | skip))) | (apply awp_cond_any; rfl))
          (all_goals try (exfalso; first | omega | contradiction))
          all_goals ((refine f_pure (rs := [.cell 6 35, .tmp 7]) ?_; (repeat' (first | exact rzl_nil | apply rzl_cons | exact rz_pure rfl | exact rz_ex | exact z_os | apply rz_agg | apply rz_tup | apply rz_clo | apply rz_int | apply rz_bool | apply rz_str | refine z_eq ?_ | apply rz_sl)); all_goals trace_state))
        · rw [if_neg h3]
          have hP : partC j cursor most = (j.coms.drop (cursor - j.first + 1).toNat).take most.toNat := rfl
          generalize partC j cursor most = X at *
          obtain ⟨k, hk⟩ : ∃ k : Nat, k = (cursor - j.first + 1).toNat := ⟨_, rfl⟩
          obtain ⟨m, hm⟩ : ∃ m : Nat, m = min (j.coms.length - k) most.toNat := ⟨_, rfl⟩
          have hX : X = (j.coms.drop k).take m := by rw [hP, ← hk, hm, List.take_eq_take_min]; simp [Nat.min_comm]
          clear hP
          have hxl : X.length = m := by rw [hX]; simp; omega
          have hcl : ACall C.P 44 [.sl false (((((j.coms.map Com.row).take (j.coms.map Com.row).length).drop k).take m).drop 0)] [] (.os 0 0 X.length) [.own false 3 (X.map Com.row)] := by
            rw [rows_part, ← hX]
            exact a_cloned X (by omega) (fun c hc => by have := hfew c (by rw [hX] at hc; exact List.mem_of_mem_drop (List.mem_of_mem_take hc)); omega)
          have hdl : (((j.coms.map Com.row).take (j.coms.map Com.row).length).drop k).length = j.coms.length - k := by simp
          refine acall_intro Tryd.func18 rfl _ Tryd.ntmps18 (Nat.le_of_ble_eq_true rfl) _ Tryd.results18 0 rfl rfl ?_
          (repeat apply awp_seq); apply awp_region; (repeat' (first | apply ops_free | refine o_mv ?_ | refine o_as ?_ | refine o_ld ?_ | refine o_fa ?_ | refine o_bi ?_ | refine o_pk ?_ | refine o_ln ?_ | refine o_ex ?_ | refine o_nc ?_ | refine o_bu ?_ | refine o_al ?_ | refine o_bx ?_ | refine o_sto ?_ | (first | fail) | refine r_nil ?_ | refine g_on_t ?_ | refine g_on_f ?_ | refine g_off_t ?_ | refine g_off_f ?_ | refine g_unw ?_ | refine g_yes ?_ | refine g_no_t ?_ | refine g_no_f ?_ | ((first | refine g_sp_t ?_ ?_ | refine g_sp_f ?_ ?_); all_goals (intro hc; have hp := hc; first | (simp at hp; done) | ((try simp at hp); first | (exfalso; omega) | skip))))); show Awp _ _ _ _ _
          (refine Awp.red (red_freeze 0 rfl ?_) ?_; (intro row hrow; obtain rfl := List.mem_singleton.1 hrow; rfl); refine Awp.red (red_fp 3 0 rfl rfl (Nat.le_of_ble_eq_true rfl)) ?_)
          repeat' (first | refine walk ?_ | (first | (apply to_call Tryd.func41 rfl rfl; intro hIsFn; refine o_callp hIsFn (ho ..) ?_) | (apply to_call Tryd.func47 rfl rfl; intro hIsFn; refine o_callf hIsFn (hlast ..) ?_; skip) | (apply to_call Tryd.func43 rfl rfl; intro hIsFn; refine o_callp hIsFn (hce ..) ?_) | (apply opsx_val; apply ex_min; (case hx => rfl); (case hy => rfl); (case hN => exact nle rfl)) | (apply opsx_val; apply ex_slice_sl (ex' := false) (a := k) (b := (j.coms.map Com.row).length) (m := 0); (case hx => rfl); (case hT => rfl); (case he => rfl); (case hE => rfl); (case ha => exact ⟨_, av_int (by omega)⟩); (case hb => rfl); (case hm => trivial); (case hab => (rw [hmj]; omega)); (case hbl => exact Nat.le_refl _); (case hrk => exact hrk); (case hex => exact nofun); (case hN => exact nle rfl)) | (apply opsx_val; apply ex_slice_sl (ex' := false) (a := 0) (b := m) (m := 0); (case hx => rfl); (case hT => rfl); (case he => rfl); (case hE => rfl); (case ha => rfl); (case hb => exact ⟨_, av_int (by rw [hdl]; omega)⟩); (case hm => trivial); (case hab => exact Nat.zero_le _); (case hbl => (rw [hdl]; omega)); (case hrk => (intro row hr; exact hrk row (List.mem_of_mem_take (List.mem_of_mem_drop hr)))); (case hex => exact nofun); (case hN => exact nle rfl)) | (apply to_call Tryd.func44 rfl rfl; intro hIsFn; refine o_callo ([]) hIsFn (hcl ..) ?_)) | ((first | (apply ops_split_t; rfl; rfl; exact nle rfl) | (apply ops_split_f; rfl; rfl; exact nle rfl) | (apply awp_cond; rfl)); all_goals (intro hc; have hp := hc; first | (simp at hp; done) | ((try simp at hp); first | (exfalso; omega) | skip))) | (apply awp_cond_any; rfl))
          (all_goals try (exfalso; first | omega | contradiction))
          all_goals ((refine f_pure (rs := [.cell 6 35, .tmp 7]) ?_; (repeat' (first | exact rzl_nil | apply rzl_cons | exact rz_pure rfl | exact rz_ex | exact z_os | apply rz_agg | apply rz_tup | apply rz_clo | apply rz_int | apply rz_bool | apply rz_str | refine z_eq ?_ | apply rz_sl)); all_goals trace_state))
  · rw [open_bad hz] at ho
    unfold readR
    rw [if_pos hz]
    generalize jouE j = E at *
    refine acall_intro Tryd.func18 rfl _ Tryd.ntmps18 (Nat.le_of_ble_eq_true rfl) _ Tryd.results18 0 rfl rfl ?_
    repeat' (first | refine walk ?_ | (first | (apply to_call Tryd.func41 rfl rfl; intro hIsFn; refine o_callp hIsFn (ho ..) ?_)) | ((first | (apply ops_split_t; rfl; rfl; exact nle rfl) | (apply ops_split_f; rfl; rfl; exact nle rfl) | (apply awp_cond; rfl)); all_goals (intro hc; have hp := hc; first | (simp at hp; done) | ((try simp at hp); first | (exfalso; omega) | skip))) | (apply awp_cond_any; rfl))
    all_goals try (exfalso; omega)
    all_goals ((refine f_pure (rs := [.cell 6 35, .tmp 7]) ?_; (repeat' (first | exact rzl_nil | apply rzl_cons | exact rz_pure rfl | exact rz_ex | exact z_os | apply rz_agg | apply rz_tup | apply rz_clo | apply rz_int | apply rz_bool | apply rz_str | refine z_eq ?_ | apply rz_sl)); all_goals trace_state))
end Go.Proofs.YtkkfilkmkdnboaaDoor

/- Journals in the abstract layer, 2: the reference's OpenJournal. -/
set_option linter.unusedSimpArgs false
set_option linter.unnecessarySimpa false
set_option linter.unusedVariables false
set_option maxHeartbeats 1000000
namespace Go.Proofs.YtkkfilkmkdnboaaDoor
open Go.Ab Go.RowKit
set_option maxRecDepth 10000
attribute [local irreducible] Awp Ops OpsX Wanted Red ExOk Go.Ab.Fin ACall Rz RzL RzRows Enters ResOk RenV RenVL ArgV ArgVL

def treesAV (l : List (List Ent)) : AV := .sl false (l.map treeRow)
def openT (j : Jou) : List (List Ent) × Int := if jouE j = 0 then (j.base :: comsT j.base j.coms, 0) else ([], jouE j)
def openTR (r : List (List Ent) × Int) : AV := .tup [treesAV r.1, .v (.int .i64 r.2)]
theorem openT_bad {j : Jou} (h : ¬ jouE j = 0) : openT j = ([], jouE j) := if_neg h
theorem jouE_eq (j : Jou) : jouE j = if ¬ treeErr j.base = 0 then treeErr j.base else if j.first < 1 ∨ 1000000 < j.first then 3 else if 30 < j.coms.length then 2
  else if ¬ (comsR j.first j.base j.coms).2 = 0 then (comsR j.first j.base j.coms).2 else if keysOk j.coms = true then 0 else 6 := rfl
theorem isVer_first {n : Int} : isVer n = true ↔ ¬ (n < 1 ∨ 1000000 < n) := by simp [isVer]
end Go.Proofs.YtkkfilkmkdnboaaDoor
