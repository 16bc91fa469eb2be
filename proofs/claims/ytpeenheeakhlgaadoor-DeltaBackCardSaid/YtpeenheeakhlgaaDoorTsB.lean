import Derived.Test.YtpeenheeakhlgaaDoorTsA
/- Changes in the abstract layer, 4: DeleteFunc, without. -/
set_option linter.unusedSimpArgs false
set_option linter.unnecessarySimpa false
set_option linter.unusedVariables false
set_option maxHeartbeats 1000000
namespace Go.Proofs.YtpeenheeakhlgaaDoor
open Go.Ab Go.RowKit
set_option maxRecDepth 10000
attribute [local irreducible] Awp Ops OpsX Wanted Red ExOk Go.Ab.Fin ACall Rz RzL RzRows Enters ResOk RenV RenVL ArgV ArgVL

def keepE (p : Ent → Bool) (t : List Ent) : List Ent := t.filter fun x => !p x
theorem keepE_succ {p : Ent → Bool} {t : List Ent} {j : Nat} (h : j < t.length) : keepE p (t.take (j + 1)) = if p t[j] = true then keepE p (t.take j) else keepE p (t.take j) ++ [t[j]] := by
  unfold keepE
  rw [List.take_succ_eq_append_getElem h, List.filter_append]
  cases hs : p t[j] <;> simp [hs]
theorem keepE_len (p : Ent → Bool) (t : List Ent) (j : Nat) (hj : j ≤ t.length) : (keepE p (t.take j)).length ≤ j := by
  have h1 : (keepE p (t.take j)).length ≤ (t.take j).length := List.length_filter_le ..
  simp at h1; omega
theorem a_deleteFunc (p : Ent → Bool) (g : FuncId) (hg : IsFn C1.P g) (cap : List AV) (hcap : AV.pure.pureL cap = true) (t : List Ent) (hl : t.length ≤ 1000000) (hcf : ∀ s, s ∈ t → AFn C1.P g (AV.agg s.row :: cap) (.v (.bool (p s)))) :
    ACall C1.P 83 [.os 0 0 t.length, .clo (.func g) [] cap] [.own false 4 (t.map Ent.row)] (.os 0 0 (keepE p t).length) [.own false 4 ((keepE p t).map Ent.row)] := by
  have hidx := a_indexE p g hg cap hcap t hl hcf
  refine acall_intro (C := C1) Tryd.func83 rfl _ Tryd.ntmps83 (Nat.le_of_ble_eq_true rfl) _ Tryd.results83 1 rfl rfl ?_
  rcases idxOf_cases p t with ⟨h1, h2⟩ | ⟨k, hk, h1, h2, h3⟩
  · have hall : keepE p t = t := List.filter_eq_self.2 fun x hx => by rw [h2 x hx]; rfl
    rw [h1] at hidx
    rw [hall]
    repeat' (first | refine walk ?_ | (first | (apply opsx_val; apply ex_call ([0]); exact isFn_of Tryd.func81 rfl rfl; exact hidx; (case hz => (exact rzl_cons (rz_os_pure rfl (by simp) (pures_map fun _ => rfl)) (rzl_cons (rz_clo_pure hcap) rzl_nil))); (case hfl => rfl); (case hN => exact nle rfl))) | ((first | (apply ops_split_t; rfl; rfl; exact nle rfl) | (apply ops_split_f; rfl; rfl; exact nle rfl) | (apply awp_cond; rfl)); all_goals (intro hc; have hp := hc; first | (simp at hp; done) | ((try simp at hp); first | (exfalso; omega) | skip))) | (apply awp_cond_any; rfl))
    all_goals try (exfalso; omega)
    (apply fin_ownr (rs := [.tmp 4]) [] 1; (case hr => (repeat (first | exact resok_nil | (apply resok_tmp; rfl) | (apply resok_cell; rfl; rfl; rfl; rfl; rfl)))); (case hL => rfl); (case hh => (repeat (first | exact hsok_nil | refine q_id ?_ | refine q_idx ?_ ?_)); all_goals trace_state); (case hi => first | exact (rfl : _ = ([] : List (Nat × Nat))) | exact (rfl : _ = [((0 : Nat), (0 : Nat))]) | exact (rfl : _ = [((0 : Nat), (0 : Nat)), (1, 1)])); (case hz => first | rfl | (simp [pack, AV.ren, AV.ren.renL, lookN, getT, enumT]; done) | (simp [pack, AV.ren, AV.ren.renL, lookN, getT, enumT, *]; done) | trace_state))
  · rw [h1] at hidx
    have hk1 : keepE p (t.take (k + 1)) = t.take k := by
      rw [keepE_succ hk, if_pos h3]
      exact List.filter_eq_self.2 fun x hx => by rw [h2 x hx]; rfl
    repeat' (first | refine walk ?_ | (first | (apply opsx_val; apply ex_call ([0]); exact isFn_of Tryd.func81 rfl rfl; exact hidx; (case hz => (exact rzl_cons (rz_os_pure rfl (by simp) (pures_map fun _ => rfl)) (rzl_cons (rz_clo_pure hcap) rzl_nil))); (case hfl => rfl); (case hN => exact nle rfl))) | ((first | (apply ops_split_t; rfl; rfl; exact nle rfl) | (apply ops_split_f; rfl; rfl; exact nle rfl) | (apply awp_cond; rfl)); all_goals (intro hc; have hp := hc; first | (simp at hp; done) | ((try simp at hp); first | (exfalso; omega) | skip))) | (apply awp_cond_any; rfl))
    all_goals try (exfalso; omega)
    (refine Awp.red (red_ren (τ := ⟨[(0, .os 0 0 t.length), (1, .clo (.func g) [] cap), (5, .v (.int .i64 (k : Int))), (6, .v (.int .i64 ((k : Int) + 1)))], [(0, .own false 4 (t.map Ent.row))], 1⟩) [] rfl ?gts ?ghs) ?gmain; (case gts => (repeat (first | exact tsok_nil | refine p_pure ?_ | refine p_op ?_ | refine p_os ?_ | refine p_eq ?_ ?_))); (case ghs => (repeat (first | exact hsok_nil | refine q_id ?_ | refine q_idx ?_ ?_))))
    refine awp_loop (C := C1) (fun n σ => ∃ (j : Nat) (E : List Ent), k + 1 ≤ j ∧ j ≤ t.length ∧ n = t.length - j ∧ E.length = t.length ∧ E.take (keepE p (t.take j)).length = keepE p (t.take j) ∧ E.drop j = t.drop j ∧ σ = ⟨[(0, .os 0 0 t.length), (1, .clo (.func g) [] cap), (5, .v (.int .i64 ((keepE p (t.take j)).length : Int))), (6, .v (.int .i64 (j : Int)))], [(0, .own false 4 (E.map Ent.row))], 1⟩) (t.length - (k + 1)) ⟨k + 1, t, Nat.le_refl _, hk, rfl, rfl, (by rw [hk1]; simp), rfl, ?_⟩ ?_
    · have htl : (t.take k).length = k := by simp; omega
      rw [hk1, htl]; rfl
    rintro n σ ⟨j, E, hkj, hj, rfl, hEl, hEt, hEd, rfl⟩
    have hil := keepE_len p t j hj
    by_cases hlt : j < t.length
    · have hej : E[j]'(by omega) = t[j] := by
        have h := congrArg (fun l => l[0]?) hEd
        simp only [List.getElem?_drop, Nat.add_zero] at h
        rw [List.getElem?_eq_getElem (by omega), List.getElem?_eq_getElem hlt] at h
        exact Option.some.inj h
      have hr := getRow (f := Ent.row) (l := E) (i := j) (by omega)
      rw [hej] at hr
      have hci := hcf t[j] (List.getElem_mem _)
      have hks := @keepE_succ p t j hlt
      have hEd2 : E.drop (j + 1) = t.drop (j + 1) := by rw [← List.drop_drop, hEd, List.drop_drop]
      have hml : (E.map Ent.row).length = E.length := List.length_map ..
      have hrw : ∀ i : Nat, i < E.length → (E.map Ent.row)[i]? = some (E[i]?.getD t[j]).row := fun i hi => by
        rw [List.getElem?_map, List.getElem?_eq_getElem hi]; rfl
      have hri := hrw (keepE p (t.take j)).length (by omega)
      generalize hI : (keepE p (t.take j)).length = i at *
      generalize p t[j] = P at *
      cases P with
      | true =>
        rw [if_pos rfl] at hks
        repeat' (first | refine walk ?_ | (first | (refine o_ixo ?_) | (apply opsx_val; apply ex_callv []; rfl; exact hg; exact hci; (case hz => exact rzl_cons (rz_pure rfl) (rzl_self hcap)); (case hfl => rfl); (case hN => exact nle rfl))) | ((first | (apply ops_split_t; rfl; rfl; exact nle rfl) | (apply ops_split_f; rfl; rfl; exact nle rfl) | (apply awp_cond; rfl)); all_goals (intro hc; have hp := hc; first | (simp at hp; done) | ((try simp at hp); first | (exfalso; omega) | skip))) | (apply awp_cond_any; rfl))
        all_goals try (exfalso; omega)
        refine ⟨t.length - (j + 1), _, by omega, red_ren (τ := ⟨[(0, .os 0 0 t.length), (1, .clo (.func g) [] cap), (5, .v (.int .i64 ((keepE p (t.take (j + 1))).length : Int))), (6, .v (.int .i64 ((j + 1 : Nat) : Int)))], [(0, .own false 4 (List.map Ent.row E))], 1⟩) [] rfl ?gts ?ghs, j + 1, E, by omega, by omega, rfl, hEl, (by rw [hks, hI]; exact hEt), hEd2, rfl⟩; (case gts => (repeat (first | exact tsok_nil | refine p_pure ?_ | refine p_op ?_ | refine p_os ?_ | refine p_eq ?_ ?_)); all_goals (rw [hks, hI])); (case ghs => (repeat (first | exact hsok_nil | refine q_id ?_ | refine q_idx ?_ ?_)); all_goals skip)
      | false =>
        rw [if_neg (by decide)] at hks
        have hlen1 : (keepE p (t.take (j + 1))).length = i + 1 := by rw [hks, List.length_append, hI]; rfl
        have hset : (E.set i t[j]).take (i + 1) = keepE p (t.take (j + 1)) := by
          rw [hks, List.take_set, ← hEt, List.take_succ_eq_append_getElem (by omega)]
          rw [List.set_append_right _ _ (by simp; omega)]
          simp [show i - min i E.length = 0 from by omega]
        have hdr : (E.set i t[j]).drop (j + 1) = t.drop (j + 1) := by rw [List.drop_set_of_lt (by omega)]; exact hEd2
        repeat' (first | refine walk ?_ | (first | (refine o_ixo ?_) | (apply opsx_val; apply ex_callv []; rfl; exact hg; exact hci; (case hz => exact rzl_cons (rz_pure rfl) (rzl_self hcap)); (case hfl => rfl); (case hN => exact nle rfl))) | ((first | (apply ops_split_t; rfl; rfl; exact nle rfl) | (apply ops_split_f; rfl; rfl; exact nle rfl) | (apply awp_cond; rfl)); all_goals (intro hc; have hp := hc; first | (simp at hp; done) | ((try simp at hp); first | (exfalso; omega) | skip))) | (apply awp_cond_any; rfl))
        all_goals try (exfalso; omega)
        refine ⟨t.length - (j + 1), _, by omega, red_ren (τ := ⟨[(0, .os 0 0 t.length), (1, .clo (.func g) [] cap), (5, .v (.int .i64 ((keepE p (t.take (j + 1))).length : Int))), (6, .v (.int .i64 ((j + 1 : Nat) : Int)))], [(0, .own false 4 (List.map Ent.row (E.set i t[j])))], 1⟩) [] rfl ?gts ?ghs, j + 1, (E.set i t[j]), by omega, by omega, rfl, (by rw [List.length_set]; exact hEl), (by rw [hlen1]; exact hset), hdr, rfl⟩; (case gts => (repeat (first | exact tsok_nil | refine p_pure ?_ | refine p_op ?_ | refine p_os ?_ | refine p_eq ?_ ?_)); all_goals (rw [hlen1])); (case ghs => (repeat (first | exact hsok_nil | refine q_id ?_ | refine q_idx ?_ ?_)); all_goals (rw [List.map_set]; rfl))
    obtain rfl : j = t.length := by omega
    rw [List.take_length] at *
    repeat' (first | refine walk ?_ | (first | (refine o_slo ?_) | (refine o_clr ?_)) | ((first | (apply ops_split_t; rfl; rfl; exact nle rfl) | (apply ops_split_f; rfl; rfl; exact nle rfl) | (apply awp_cond; rfl)); all_goals (intro hc; have hp := hc; first | (simp at hp; done) | ((try simp at hp); first | (exfalso; omega) | skip))) | (apply awp_cond_any; rfl))
    all_goals try (exfalso; omega)
    apply fin_cut (C := C1) 0 (keepE p t).length
    case hn => rfl
    case hr =>
      refine Eq.trans (b := (keepE p t).map Ent.row) ?_ rfl
      rw [List.append_assoc, List.take_append_of_le_length (by simp; omega), Nat.zero_add, List.take_take, Nat.min_self, ← List.map_take, hEt]
    (apply fin_ownr (rs := [.tmp 4]) [] 1; (case hr => (repeat (first | exact resok_nil | (apply resok_tmp; rfl) | (apply resok_cell; rfl; rfl; rfl; rfl; rfl)))); (case hL => rfl); (case hh => (repeat (first | exact hsok_nil | refine q_id ?_ | refine q_idx ?_ ?_)); all_goals trace_state); (case hi => first | exact (rfl : _ = ([] : List (Nat × Nat))) | exact (rfl : _ = [((0 : Nat), (0 : Nat))]) | exact (rfl : _ = [((0 : Nat), (0 : Nat)), (1, 1)])); (case hz => first | rfl | (simp [pack, AV.ren, AV.ren.renL, lookN, getT, enumT]; done) | (simp [pack, AV.ren, AV.ren.renL, lookN, getT, enumT, *]; done) | (simp [pack, AV.ren, AV.ren.renL, lookN, getT, enumT]; omega)))
def inP (p : Str) (x : Ent) : Bool := inB x.path p
theorem a_withoutC (x : Ent) (p : Str) (hp : p.length ≤ 140737488355328) : AFn C.P 84 [.agg x.row, .fp [[.v (str p)]] 0 0] (.v (.bool (inP p x))) := by
  have hin := a_in x.path p hp
  refine acall_intro Tryd.func84 rfl _ Tryd.ntmps84 (Nat.le_of_ble_eq_true rfl) _ Tryd.results84 0 rfl rfl ?_
  repeat' (first | refine walk ?_ | (first | (apply to_call Tryd.func57 rfl rfl; intro hIsFn; refine o_callf hIsFn (hin ..) ?_; skip)) | ((first | (apply awp_cond; rfl)); all_goals (intro hc; have hp := hc; first | (simp at hp; done) | ((try simp at hp); first | (exfalso; omega) | skip))) | (apply awp_cond_any; rfl))
  all_goals (apply fin_bool; rfl; rfl)
theorem a_without (t : List Ent) (p : Str) (hl : t.length ≤ 1000000) (hpl : p.length ≤ 140737488355328) :
    ACall C1.P 73 [.os 0 0 t.length, .v (str p)] [.own false 4 (t.map Ent.row)] (.os 0 0 (keepE (inP p) t).length) [.own false 4 ((keepE (inP p) t).map Ent.row)] := by
  have hdel := a_deleteFunc (inP p) 84 (isFn_of Tryd.func84 rfl rfl) [.fp [[.v (str p)]] 0 0] rfl t hl (fun x _ => a_withoutC x p hpl)
  refine acall_intro (C := C1) Tryd.func73 rfl _ Tryd.ntmps73 (Nat.le_of_ble_eq_true rfl) _ Tryd.results73 1 rfl rfl ?_
  (repeat apply awp_seq); apply awp_region; (repeat' (first | apply ops_free | refine o_mv ?_ | refine o_as ?_ | refine o_ld ?_ | refine o_fa ?_ | refine o_bi ?_ | refine o_pk ?_ | refine o_ln ?_ | refine o_ia ?_ | refine o_ix ?_ | refine o_no ?_ | refine o_ex ?_ | refine o_fi ?_ | refine o_fn ?_ | refine o_nc ?_ | refine o_bu ?_ | refine o_al ?_ | refine o_bx ?_ | refine o_sto ?_ | (first | fail) | refine r_nil ?_ | refine g_on_t ?_ | refine g_on_f ?_ | refine g_off_t ?_ | refine g_off_f ?_ | refine g_unw ?_ | refine g_yes ?_ | refine g_no_t ?_ | refine g_no_f ?_ | ((first | refine g_sp_t ?_ ?_ | refine g_sp_f ?_ ?_); all_goals (intro hc; have hp := hc; first | (simp at hp; done) | ((try simp at hp); first | (exfalso; omega) | skip))))); show Awp _ _ _ _ _
  (refine Awp.red (red_freeze 1 rfl ?_) ?_; (intro row hrow; obtain rfl := List.mem_singleton.1 hrow; rfl); refine Awp.red (red_fp 3 1 rfl rfl (Nat.le_of_ble_eq_true rfl)) ?_)
  repeat' (first | refine walk ?_ | (first | (apply to_call Tryd.func83 rfl rfl; intro hIsFn; refine o_callh ([0]) 0 hIsFn (hdel ..) ?_)) | ((first | (apply ops_split_t; rfl; rfl; exact nle rfl) | (apply ops_split_f; rfl; rfl; exact nle rfl) | (apply awp_cond; rfl)); all_goals (intro hc; have hp := hc; first | (simp at hp; done) | ((try simp at hp); first | (exfalso; omega) | skip))) | (apply awp_cond_any; rfl))
  all_goals try (exfalso; omega)
  (apply fin_ownr (rs := [.tmp 4]) [] 1; (case hr => (repeat (first | exact resok_nil | (apply resok_tmp; rfl) | (apply resok_cell; rfl; rfl; rfl; rfl; rfl)))); (case hL => rfl); (case hh => (repeat (first | exact hsok_nil | refine q_id ?_ | refine q_idx ?_ ?_)); all_goals trace_state); (case hi => first | exact (rfl : _ = ([] : List (Nat × Nat))) | exact (rfl : _ = [((0 : Nat), (0 : Nat))]) | exact (rfl : _ = [((0 : Nat), (0 : Nat)), (1, 1)])); (case hz => first | rfl | (simp [pack, AV.ren, AV.ren.renL, lookN, getT, enumT]; done) | (simp [pack, AV.ren, AV.ren.renL, lookN, getT, enumT, *]; done) | (simp [pack, AV.ren, AV.ren.renL, lookN, getT, enumT]; omega)))
end Go.Proofs.YtpeenheeakhlgaaDoor

/- Changes in the abstract layer, 5: done (all kinds but moves). -/
set_option linter.unusedSimpArgs false
set_option linter.unnecessarySimpa false
set_option linter.unusedVariables false
set_option maxHeartbeats 1000000
namespace Go.Proofs.YtpeenheeakhlgaaDoor
open Go.Ab Go.RowKit
set_option maxRecDepth 10000
attribute [local irreducible] Awp Ops OpsX Wanted Red ExOk Go.Ab.Fin ACall Rz RzL RzRows Enters ResOk RenV RenVL ArgV ArgVL

def moveTo (c : Chg) (v : Int) (x : Ent) : Ent := ⟨c.to ++ x.path.drop c.path.length, x.fold, x.text, if x.path = c.path then v else x.ver⟩
def goesOf (t : List Ent) (c : Chg) (v : Int) : List Ent := (t.filter (inP c.path)).map (moveTo c v)
def doneL (t : List Ent) (c : Chg) (v : Int) : List Ent :=
  if c.kind = 1 then putT t ⟨c.path, true, [], v⟩
  else if c.kind = 2 then putT t ⟨c.path, false, c.text, v⟩
  else if c.kind = 4 then keepE (inP c.path) t
  else (goesOf t c v).foldl putT (keepE (inP c.path) t)
def moveBad (t : List Ent) (c : Chg) : Bool := decide (c.kind = 3) && (t.filter (inP c.path)).any fun x => tooGreat (c.to ++ x.path.drop c.path.length)
def doneE (t : List Ent) (c : Chg) (v : Int) : Int := if moveBad t c = true then 2 else if 60 < (doneL t c v).length then 2 else 0
def resAV (e : Int) (n : Nat) : AV := if e = 0 then .tup [.os 1 0 n, .v (.int .i64 0)] else .tup [.sl true [], .v (.int .i64 e)]

theorem a_done1 (t : List Ent) (c : Chg) (v : Int) (hl : t.length ≤ 1000000) (hs : rising entLt t = true) (hk : c.kind = 1) (hlen : (doneL t c v).length ≤ 1000001) :
    ACall C1.P 61 [.os 0 0 t.length, .agg c.row, .v (.int .i64 v)] [.own false 4 (t.map Ent.row)] (resAV (doneE t c v) (doneL t c v).length) [.dead, .own false 4 ((doneL t c v).map Ent.row)] := by
  have hput : ACall C1.P 72 [.os 0 0 t.length, .agg [.v (str c.path), .v (.bool true), .v (str []), .v (.int .i64 v)]] [.own false 4 (t.map Ent.row)] _ _ := a_put t ⟨c.path, true, [], v⟩ hl hs
  have hD : doneL t c v = putT t ⟨c.path, true, [], v⟩ := by simp [doneL, hk]
  have hE : doneE t c v = if 60 < (doneL t c v).length then 2 else 0 := by simp [doneE, moveBad, hk]
  rw [← hD] at hput
  generalize doneE t c v = E at *
  generalize doneL t c v = L at *
  by_cases h60 : 60 < L.length
  · rw [if_pos h60] at hE
    subst hE
    refine acall_intro (C := C1) Tryd.func61 rfl _ Tryd.ntmps61 (Nat.le_of_ble_eq_true rfl) _ Tryd.results61 1 rfl rfl ?_
    repeat' (first | refine walk ?_ | (first | (apply to_call Tryd.func72 rfl rfl; intro hIsFn; refine o_callg ([0]) 0 hIsFn (hput ..) ?_)) | ((first | (apply ops_split_t; rfl; rfl; exact nle rfl) | (apply ops_split_f; rfl; rfl; exact nle rfl) | (apply awp_cond; rfl)); all_goals (intro hc; have hp := hc; first | (simp at hp; done) | ((try simp at hp); first | (exfalso; omega) | skip))) | (apply awp_cond_any; rfl))
    all_goals try (exfalso; omega)
    (apply fin_ownr (rs := [.tmp 6, .tmp 7]) [(2, 1)] 2; (case hr => (repeat (first | exact resok_nil | (apply resok_tmp; rfl) | (apply resok_cell; rfl; rfl; rfl; rfl; rfl)))); (case hL => rfl); (case hh => (apply hsok_dead 0; exact maps_low rfl; (repeat (first | exact hsok_nil | refine q_id ?_ | refine q_idx ?_ ?_))); all_goals trace_state); (case hi => first | exact (rfl : _ = ([] : List (Nat × Nat))) | exact (rfl : _ = [((0 : Nat), (0 : Nat))]) | exact (rfl : _ = [((0 : Nat), (0 : Nat)), (1, 1)])); (case hz => first | rfl | (simp [pack, AV.ren, AV.ren.renL, lookN, getT, enumT]; done) | (simp [pack, AV.ren, AV.ren.renL, lookN, getT, enumT, *]; done) | trace_state))
  · rw [if_neg h60] at hE
    subst hE
    refine acall_intro (C := C1) Tryd.func61 rfl _ Tryd.ntmps61 (Nat.le_of_ble_eq_true rfl) _ Tryd.results61 1 rfl rfl ?_
    repeat' (first | refine walk ?_ | (first | (apply to_call Tryd.func72 rfl rfl; intro hIsFn; refine o_callg ([0]) 0 hIsFn (hput ..) ?_)) | ((first | (apply ops_split_t; rfl; rfl; exact nle rfl) | (apply ops_split_f; rfl; rfl; exact nle rfl) | (apply awp_cond; rfl)); all_goals (intro hc; have hp := hc; first | (simp at hp; done) | ((try simp at hp); first | (exfalso; omega) | skip))) | (apply awp_cond_any; rfl))
    all_goals try (exfalso; omega)
    (apply fin_ownr (rs := [.tmp 6, .tmp 7]) [(2, 1)] 2; (case hr => (repeat (first | exact resok_nil | (apply resok_tmp; rfl) | (apply resok_cell; rfl; rfl; rfl; rfl; rfl)))); (case hL => rfl); (case hh => (apply hsok_dead 0; exact maps_low rfl; (repeat (first | exact hsok_nil | refine q_id ?_ | refine q_idx ?_ ?_))); all_goals trace_state); (case hi => first | exact (rfl : _ = ([] : List (Nat × Nat))) | exact (rfl : _ = [((0 : Nat), (0 : Nat))]) | exact (rfl : _ = [((0 : Nat), (0 : Nat)), (1, 1)])); (case hz => first | rfl | (simp [pack, AV.ren, AV.ren.renL, lookN, getT, enumT]; done) | (simp [pack, AV.ren, AV.ren.renL, lookN, getT, enumT, *]; done) | trace_state))
theorem a_done2 (t : List Ent) (c : Chg) (v : Int) (hl : t.length ≤ 1000000) (hs : rising entLt t = true) (hk : c.kind = 2) (hlen : (doneL t c v).length ≤ 1000001) :
    ACall C1.P 61 [.os 0 0 t.length, .agg c.row, .v (.int .i64 v)] [.own false 4 (t.map Ent.row)] (resAV (doneE t c v) (doneL t c v).length) [.dead, .own false 4 ((doneL t c v).map Ent.row)] := by
  have hput : ACall C1.P 72 [.os 0 0 t.length, .agg [.v (str c.path), .v (.bool false), .v (str c.text), .v (.int .i64 v)]] [.own false 4 (t.map Ent.row)] _ _ := a_put t ⟨c.path, false, c.text, v⟩ hl hs
  have hD : doneL t c v = putT t ⟨c.path, false, c.text, v⟩ := by simp [doneL, hk]
  have hE : doneE t c v = if 60 < (doneL t c v).length then 2 else 0 := by simp [doneE, moveBad, hk]
  rw [← hD] at hput
  generalize doneE t c v = E at *
  generalize doneL t c v = L at *
  by_cases h60 : 60 < L.length
  · rw [if_pos h60] at hE
    subst hE
    refine acall_intro (C := C1) Tryd.func61 rfl _ Tryd.ntmps61 (Nat.le_of_ble_eq_true rfl) _ Tryd.results61 1 rfl rfl ?_
    repeat' (first | refine walk ?_ | (first | (apply to_call Tryd.func72 rfl rfl; intro hIsFn; refine o_callg ([0]) 0 hIsFn (hput ..) ?_)) | ((first | (apply ops_split_t; rfl; rfl; exact nle rfl) | (apply ops_split_f; rfl; rfl; exact nle rfl) | (apply awp_cond; rfl)); all_goals (intro hc; have hp := hc; first | (simp at hp; done) | ((try simp at hp); first | (exfalso; omega) | skip))) | (apply awp_cond_any; rfl))
    all_goals try (exfalso; omega)
    (apply fin_ownr (rs := [.tmp 6, .tmp 7]) [(2, 1)] 2; (case hr => (repeat (first | exact resok_nil | (apply resok_tmp; rfl) | (apply resok_cell; rfl; rfl; rfl; rfl; rfl)))); (case hL => rfl); (case hh => (apply hsok_dead 0; exact maps_low rfl; (repeat (first | exact hsok_nil | refine q_id ?_ | refine q_idx ?_ ?_))); all_goals trace_state); (case hi => first | exact (rfl : _ = ([] : List (Nat × Nat))) | exact (rfl : _ = [((0 : Nat), (0 : Nat))]) | exact (rfl : _ = [((0 : Nat), (0 : Nat)), (1, 1)])); (case hz => first | rfl | (simp [pack, AV.ren, AV.ren.renL, lookN, getT, enumT]; done) | (simp [pack, AV.ren, AV.ren.renL, lookN, getT, enumT, *]; done) | trace_state))
  · rw [if_neg h60] at hE
    subst hE
    refine acall_intro (C := C1) Tryd.func61 rfl _ Tryd.ntmps61 (Nat.le_of_ble_eq_true rfl) _ Tryd.results61 1 rfl rfl ?_
    repeat' (first | refine walk ?_ | (first | (apply to_call Tryd.func72 rfl rfl; intro hIsFn; refine o_callg ([0]) 0 hIsFn (hput ..) ?_)) | ((first | (apply ops_split_t; rfl; rfl; exact nle rfl) | (apply ops_split_f; rfl; rfl; exact nle rfl) | (apply awp_cond; rfl)); all_goals (intro hc; have hp := hc; first | (simp at hp; done) | ((try simp at hp); first | (exfalso; omega) | skip))) | (apply awp_cond_any; rfl))
    all_goals try (exfalso; omega)
    (apply fin_ownr (rs := [.tmp 6, .tmp 7]) [(2, 1)] 2; (case hr => (repeat (first | exact resok_nil | (apply resok_tmp; rfl) | (apply resok_cell; rfl; rfl; rfl; rfl; rfl)))); (case hL => rfl); (case hh => (apply hsok_dead 0; exact maps_low rfl; (repeat (first | exact hsok_nil | refine q_id ?_ | refine q_idx ?_ ?_))); all_goals trace_state); (case hi => first | exact (rfl : _ = ([] : List (Nat × Nat))) | exact (rfl : _ = [((0 : Nat), (0 : Nat))]) | exact (rfl : _ = [((0 : Nat), (0 : Nat)), (1, 1)])); (case hz => first | rfl | (simp [pack, AV.ren, AV.ren.renL, lookN, getT, enumT]; done) | (simp [pack, AV.ren, AV.ren.renL, lookN, getT, enumT, *]; done) | trace_state))
theorem a_done4 (t : List Ent) (c : Chg) (v : Int) (hl : t.length ≤ 1000000) (hk : c.kind = 4) (hpl : c.path.length ≤ 140737488355328) :
    ACall C1.P 61 [.os 0 0 t.length, .agg c.row, .v (.int .i64 v)] [.own false 4 (t.map Ent.row)] (resAV (doneE t c v) (doneL t c v).length) [.dead, .own false 4 ((doneL t c v).map Ent.row)] := by
  have hwo := a_without t c.path hl hpl
  have hD : doneL t c v = keepE (inP c.path) t := by simp [doneL, hk]
  have hE : doneE t c v = if 60 < (doneL t c v).length then 2 else 0 := by simp [doneE, moveBad, hk]
  have hlen : (doneL t c v).length ≤ t.length := by rw [hD]; exact List.length_filter_le ..
  rw [← hD] at hwo
  generalize doneE t c v = E at *
  generalize doneL t c v = L at *
  by_cases h60 : 60 < L.length
  · rw [if_pos h60] at hE
    subst hE
    refine acall_intro (C := C1) Tryd.func61 rfl _ Tryd.ntmps61 (Nat.le_of_ble_eq_true rfl) _ Tryd.results61 1 rfl rfl ?_
    repeat' (first | refine walk ?_ | (first | (apply to_call Tryd.func73 rfl rfl; intro hIsFn; refine o_callh ([0]) 0 hIsFn (hwo ..) ?_)) | ((first | (apply ops_split_t; rfl; rfl; exact nle rfl) | (apply ops_split_f; rfl; rfl; exact nle rfl) | (apply awp_cond; rfl)); all_goals (intro hc; have hp := hc; first | (simp at hp; done) | ((try simp at hp); first | (exfalso; omega) | skip))) | (apply awp_cond_any; rfl))
    all_goals try (exfalso; omega)
    apply fin_move (C := C1) 0 0 L.length
    case hi => rfl
    case hn => rfl
    case hr => exact (List.take_of_length_le (by simp))
    case hnn => exact Nat.ne_of_beq_eq_false rfl
    case hnx => exact Nat.le_of_ble_eq_true rfl
    (apply fin_ownr (rs := [.tmp 6, .tmp 7]) [(2, 1)] 2; (case hr => (repeat (first | exact resok_nil | (apply resok_tmp; rfl) | (apply resok_cell; rfl; rfl; rfl; rfl; rfl)))); (case hL => rfl); (case hh => (apply hsok_dead 0; exact maps_low rfl; (repeat (first | exact hsok_nil | refine q_id ?_ | refine q_idx ?_ ?_))); all_goals trace_state); (case hi => first | exact (rfl : _ = ([] : List (Nat × Nat))) | exact (rfl : _ = [((0 : Nat), (0 : Nat))]) | exact (rfl : _ = [((0 : Nat), (0 : Nat)), (1, 1)])); (case hz => first | rfl | (simp [pack, AV.ren, AV.ren.renL, lookN, getT, enumT]; done) | (simp [pack, AV.ren, AV.ren.renL, lookN, getT, enumT, *]; done) | trace_state))
  · rw [if_neg h60] at hE
    subst hE
    refine acall_intro (C := C1) Tryd.func61 rfl _ Tryd.ntmps61 (Nat.le_of_ble_eq_true rfl) _ Tryd.results61 1 rfl rfl ?_
    repeat' (first | refine walk ?_ | (first | (apply to_call Tryd.func73 rfl rfl; intro hIsFn; refine o_callh ([0]) 0 hIsFn (hwo ..) ?_)) | ((first | (apply ops_split_t; rfl; rfl; exact nle rfl) | (apply ops_split_f; rfl; rfl; exact nle rfl) | (apply awp_cond; rfl)); all_goals (intro hc; have hp := hc; first | (simp at hp; done) | ((try simp at hp); first | (exfalso; omega) | skip))) | (apply awp_cond_any; rfl))
    all_goals try (exfalso; omega)
    apply fin_move (C := C1) 6 0 L.length
    case hi => rfl
    case hn => rfl
    case hr => exact (List.take_of_length_le (by simp))
    case hnn => exact Nat.ne_of_beq_eq_false rfl
    case hnx => exact Nat.le_of_ble_eq_true rfl
    (apply fin_ownr (rs := [.tmp 6, .tmp 7]) [(2, 1)] 2; (case hr => (repeat (first | exact resok_nil | (apply resok_tmp; rfl) | (apply resok_cell; rfl; rfl; rfl; rfl; rfl)))); (case hL => rfl); (case hh => (apply hsok_dead 0; exact maps_low rfl; (repeat (first | exact hsok_nil | refine q_id ?_ | refine q_idx ?_ ?_))); all_goals trace_state); (case hi => first | exact (rfl : _ = ([] : List (Nat × Nat))) | exact (rfl : _ = [((0 : Nat), (0 : Nat))]) | exact (rfl : _ = [((0 : Nat), (0 : Nat)), (1, 1)])); (case hz => first | rfl | (simp [pack, AV.ren, AV.ren.renL, lookN, getT, enumT]; done) | (simp [pack, AV.ren, AV.ren.renL, lookN, getT, enumT, *]; done) | trace_state))
end Go.Proofs.YtpeenheeakhlgaaDoor

/- Trees, plain, 2: what put makes; what is right. -/
set_option linter.unusedSimpArgs false
set_option linter.unnecessarySimpa false
set_option linter.unusedVariables false
namespace Go.Proofs.YtpeenheeakhlgaaDoor
open Go.Op

theorem bl_asym {a b : Str} (h : bytesLess a b = true) : bytesLess b a = false := by
  cases e : bytesLess b a
  · rfl
  · have := bl_trans h e
    rw [bl_irr] at this; cases this
theorem bl_ne {a b : Str} (h : bytesLess a b = true) : ¬ a = b := fun e => by rw [e, bl_irr] at h; cases h
theorem bl_tot {a b : Str} (h1 : bytesLess a b = false) (h2 : ¬ a = b) : bytesLess b a = true := by
  rcases bl_tri a b with ⟨h, _, _⟩ | ⟨h, _, _⟩ | ⟨h, _, _⟩
  · rw [h] at h1; cases h1
  · exact absurd h h2
  · exact h
/-- Entries that are right, parted at a place. -/
theorem splitE (p : Str) : ∀ {t : List Ent}, t.Pairwise (fun a b => bytesLess a.path b.path = true) → ∃ A M Z, t = A ++ (M ++ Z) ∧ posE t p = A.length ∧ (∀ a, a ∈ A → bytesLess a.path p = true) ∧ (∀ z, z ∈ Z → bytesLess p z.path = true) ∧
    ((hitE t p = true ∧ ∃ x, M = [x] ∧ x.path = p) ∨ (hitE t p = false ∧ M = []))
  | [], _ => ⟨[], [], [], rfl, rfl, nofun, nofun, .inr ⟨rfl, rfl⟩⟩
  | x :: l, h => by
    obtain ⟨h1, h2⟩ := List.pairwise_cons.1 h
    by_cases hx : bytesLess x.path p = true
    · obtain ⟨A, M, Z, rfl, hp, hA, hZ, hM⟩ := splitE p h2
      have hp' : posE (x :: (A ++ (M ++ Z))) p = A.length + 1 := by
        simp only [posE, List.takeWhile_cons, hx, if_true, List.length_cons] at hp ⊢; omega
      have hh : hitE (x :: (A ++ (M ++ Z))) p = hitE (A ++ (M ++ Z)) p := by
        simp [hitE, atP, bl_ne hx]
      refine ⟨x :: A, M, Z, rfl, hp', fun a ha => ?_, hZ, by rw [hh]; exact hM⟩
      rcases List.mem_cons.1 ha with rfl | ha
      · exact hx
      · exact hA a ha
    · have hx : bytesLess x.path p = false := by simpa using hx
      have hp : posE (x :: l) p = 0 := by simp [posE, List.takeWhile_cons, hx]
      by_cases e : x.path = p
      · subst e
        exact ⟨[], [x], l, rfl, hp, nofun, fun z hz => h1 z hz, .inl ⟨by simp [hitE, atP], x, rfl, rfl⟩⟩
      · have hg := bl_tot hx e
        have hall : ∀ z, z ∈ x :: l → bytesLess p z.path = true := fun z hz => by
          rcases List.mem_cons.1 hz with rfl | hz
          · exact hg
          · exact bl_trans hg (h1 z hz)
        refine ⟨[], [], x :: l, rfl, hp, nofun, hall, .inr ⟨List.any_eq_false.2 fun z hz => ?_, rfl⟩⟩
        have := bl_ne (hall z hz)
        simp only [atP, decide_eq_true_eq]
        exact fun e => this e.symm
theorem putT_split {t A M Z : List Ent} {x : Ent} (h : t = A ++ (M ++ Z)) (hp : posE t x.path = A.length) (hM : (hitE t x.path = true ∧ ∃ y, M = [y] ∧ y.path = x.path) ∨ (hitE t x.path = false ∧ M = [])) : putT t x = A ++ ([x] ++ Z) := by
  unfold putT
  rw [hp]
  have h1 : t.take A.length = A := by rw [h]; simp
  rw [h1]
  rcases hM with ⟨hh, y, rfl, _⟩ | ⟨hh, rfl⟩
  · simp only [hh, if_true]; rw [h]; simp
  · simp only [hh, Bool.false_eq_true, if_false]; rw [h]; simp
theorem putT_len (t : List Ent) (x : Ent) : (putT t x).length ≤ t.length + 1 := by
  unfold putT; split <;> simp <;> omega
theorem putT_rising {t : List Ent} {x : Ent} (hs : rising entLt t = true) : rising entLt (putT t x) = true := by
  have hl := rising_pairE.1 hs
  obtain ⟨A, M, Z, h, hp, hA, hZ, hM⟩ := splitE x.path hl
  rw [putT_split h hp hM]
  refine rising_pairE.2 ?_
  have hsub : (A ++ Z).Sublist t := by
    rw [h]; exact List.Sublist.append_left (List.sublist_append_right _ _) _
  obtain ⟨pA, pZ, pAZ⟩ := List.pairwise_append.1 (hl.sublist hsub)
  refine List.pairwise_append.2 ⟨pA, List.pairwise_cons.2 ⟨fun z hz => hZ z hz, pZ⟩, fun a ha b hb => ?_⟩
  rcases List.mem_cons.1 hb with rfl | hb
  · exact hA a ha
  · exact pAZ a ha b hb
theorem keepE_rising {p : Ent → Bool} {t : List Ent} (hs : rising entLt t = true) : rising entLt (keepE p t) = true := rising_pairE.2 ((rising_pairE.1 hs).sublist List.filter_sublist)
theorem putAll_rising : ∀ {l t : List Ent}, rising entLt t = true → rising entLt (l.foldl putT t) = true
  | [], _, h => h
  | x :: l, t, h => putAll_rising (l := l) (putT_rising h)
theorem putAll_len : ∀ (l t : List Ent), (l.foldl putT t).length ≤ t.length + l.length
  | [], _ => by simp
  | x :: l, t => by
    have h1 := putAll_len l (putT t x)
    have h2 := putT_len t x
    simp only [List.foldl_cons, List.length_cons]; omega
theorem putAll_succ {l t : List Ent} {i : Nat} (h : i < l.length) : (l.take (i + 1)).foldl putT t = putT ((l.take i).foldl putT t) l[i] := by
  rw [List.take_succ_eq_append_getElem h, List.foldl_append]; rfl
theorem pathErr_small {p : Str} (h : pathErr p = 0) : p.length ≤ 80 := by
  have : tooGreat p = false := by
    unfold pathErr at h
    split at h
    · split at h
      · exact absurd h (by decide)
      · rename_i h2; simpa using h2
    · exact absurd h (by decide)
  simp [tooGreat] at this; omega
theorem moved_right {p f t : Str} (hp : pathErr p = 0) (hf : pathErr f = 0) (ht : pathErr t = 0) (hi : inB p f = true) : movedErr p f t = if tooGreat (t ++ p.drop f.length) = true then 2 else 0 := by
  unfold movedErr
  rw [if_pos (by simp [pathsErr, hp, hf, ht]), if_pos hi]
theorem goes_succ {t : List Ent} {c : Chg} {v : Int} {i : Nat} (h : i < t.length) : goesOf (t.take (i + 1)) c v = if inB t[i].path c.path = true then goesOf (t.take i) c v ++ [moveTo c v t[i]] else goesOf (t.take i) c v := by
  unfold goesOf
  rw [List.take_succ_eq_append_getElem h, List.filter_append]
  cases hs : inB t[i].path c.path <;> simp [hs, inP]
end Go.Proofs.YtpeenheeakhlgaaDoor

/- Changes in the abstract layer, 6: done, of moves. -/
set_option linter.unusedSimpArgs false
set_option linter.unnecessarySimpa false
set_option linter.unusedVariables false
set_option maxHeartbeats 1000000
namespace Go.Proofs.YtpeenheeakhlgaaDoor
open Go.Ab Go.RowKit
set_option maxRecDepth 10000
attribute [local irreducible] Awp Ops OpsX Wanted Red ExOk Go.Ab.Fin ACall Rz RzL RzRows Enters ResOk RenV RenVL ArgV ArgVL

def badUpto (t : List Ent) (c : Chg) (i : Nat) : Bool := ((t.take i).filter (inP c.path)).any fun x => tooGreat (c.to ++ x.path.drop c.path.length)
theorem bad_succ {t : List Ent} {c : Chg} {i : Nat} (h : i < t.length) : badUpto t c (i + 1) = (badUpto t c i || (inB t[i].path c.path && tooGreat (c.to ++ t[i].path.drop c.path.length))) := by
  unfold badUpto
  rw [List.take_succ_eq_append_getElem h, List.filter_append, List.any_append]
  cases hs : inB t[i].path c.path <;> simp [hs, inP]
theorem a_done3_bad (t : List Ent) (c : Chg) (v : Int) (hl : t.length ≤ 1000000) (hk : c.kind = 3) (hgt : ∀ x, x ∈ t → pathErr x.path = 0) (hc1 : pathErr c.path = 0) (hc2 : pathErr c.to = 0) (hbad : moveBad t c = true) :
    ACall C1.P 61 [.os 0 0 t.length, .agg c.row, .v (.int .i64 v)] [.own false 4 (t.map Ent.row)] (.tup [.sl true [], .v (.int .i64 2)]) [.own false 4 (t.map Ent.row)] := by
  have l1 := pathErr_small hc1
  have l2 := pathErr_small hc2
  have hml : (t.map Ent.row).length = t.length := List.length_map ..
  refine acall_intro (C := C1) Tryd.func61 rfl _ Tryd.ntmps61 (Nat.le_of_ble_eq_true rfl) _ Tryd.results61 1 rfl rfl ?_
  repeat' (first | refine walk ?_ | fail | ((first | (apply ops_split_t; rfl; rfl; exact nle rfl) | (apply ops_split_f; rfl; rfl; exact nle rfl) | (apply awp_cond; rfl)); all_goals (intro hc; have hp := hc; first | (simp at hp; done) | ((try simp at hp); first | (exfalso; omega) | skip))) | (apply awp_cond_any; rfl))
  all_goals try (exfalso; omega)
  refine Awp.red (C := C1) (red_nil 8 4 rfl (Nat.le_of_ble_eq_true rfl)) ?_
  (refine Awp.red (red_ren (τ := ⟨[(0, .os 0 0 t.length), (2, .v (.int .i64 v)), (4, .op 1 0 0), (8, .os 2 0 0), (43, .os 0 0 t.length), (44, .v (.int .i64 t.length)), (45, .v (.int .i64 ((0 : Nat) : Int)))], [(0, .own false 4 (t.map Ent.row)), (1, .own false 5 [c.row]), (2, .own false 4 [])], 3⟩) [(1, 1), (2, 2)] rfl ?gts ?ghs) ?gmain; (case gts => (repeat (first | exact tsok_nil | refine p_pure ?_ | refine p_op ?_ | refine p_os ?_ | refine p_eq ?_ ?_))); (case ghs => (repeat (first | exact hsok_nil | refine q_id ?_ | refine q_idx ?_ ?_))))
  refine awp_loop (C := C1) (fun n σ => ∃ i : Nat, i ≤ t.length ∧ n = t.length - i ∧ badUpto t c i = false ∧ σ = ⟨[(0, .os 0 0 t.length), (2, .v (.int .i64 v)), (4, .op 1 0 0), (8, .os 2 0 (goesOf (t.take i) c v).length), (43, .os 0 0 t.length), (44, .v (.int .i64 t.length)), (45, .v (.int .i64 (i : Int)))], [(0, .own false 4 (t.map Ent.row)), (1, .own false 5 [c.row]), (2, .own false 4 ((goesOf (t.take i) c v).map Ent.row))], 3⟩) t.length ⟨0, Nat.zero_le _, rfl, rfl, rfl⟩ ?_
  rintro n σ ⟨i, hi, rfl, hsofar, rfl⟩
  have hgl : (goesOf (t.take i) c v).length ≤ i := by
    unfold goesOf
    rw [List.length_map]
    have h1 : ((t.take i).filter (inP c.path)).length ≤ (t.take i).length := List.length_filter_le ..
    simp at h1; omega
  by_cases hlt : i < t.length
  · have hr := getRow (f := Ent.row) hlt
    have hpx := hgt t[i] (List.getElem_mem _)
    have lx := pathErr_small hpx
    have hin := a_in t[i].path c.path (by omega)
    have hgs := @goes_succ t c v i hlt
    have hmv := a_moved t[i].path c.path c.to (by omega) (by omega) (by omega)
    have hme := @moved_right t[i].path c.path c.to hpx hc1 hc2
    have hbs := @bad_succ t c i hlt
    rw [hsofar] at hbs
    have hmt : ∀ w, (if t[i].path = c.path then v else t[i].ver) = w → (moveTo c v t[i]).row = [.v (str (c.to ++ t[i].path.drop c.path.length)), .v (.bool t[i].fold), .v (str t[i].text), .v (.int .i64 w)] := fun w hw => by simp [moveTo, Ent.row, hw]
    generalize hG : goesOf (t.take i) c v = G at hgl hgs ⊢
    generalize inB t[i].path c.path = I at *
    cases I with
    | false =>
      rw [if_neg (by decide)] at hgs
      have hbs : badUpto t c (i + 1) = false := hbs
      repeat' (first | refine walk ?_ | (first | (refine o_ixo ?_) | (refine o_fzl ?_) | (refine o_appo ?_) | (apply to_call Tryd.func57 rfl rfl; intro hIsFn; refine o_callf hIsFn (hin ..) ?_; skip) | (apply to_call Tryd.func74 rfl rfl; intro hIsFn; refine o_callp hIsFn (hmv ..) ?_)) | ((first | (apply ops_split_t; rfl; rfl; exact nle rfl) | (apply ops_split_f; rfl; rfl; exact nle rfl) | (apply awp_cond; rfl)); all_goals (intro hc; have hp := hc; first | (simp at hp; done) | ((try simp at hp); first | (exfalso; omega) | skip))) | (apply awp_cond_any; rfl))
      all_goals try (exfalso; omega)
      refine ⟨t.length - (i + 1), _, by omega, red_ren (τ := ⟨[(0, .os 0 0 t.length), (2, .v (.int .i64 v)), (4, .op 1 0 0), (8, .os 2 0 (goesOf (t.take (i + 1)) c v).length), (43, .os 0 0 t.length), (44, .v (.int .i64 t.length)), (45, .v (.int .i64 ((i + 1 : Nat) : Int)))], [(0, .own false 4 (t.map Ent.row)), (1, .own false 5 [c.row]), (2, .own false 4 ((goesOf (t.take (i + 1)) c v).map Ent.row))], 3⟩) [(1, 1), (2, 2)] rfl ?gts ?ghs, i + 1, by omega, rfl, (hbs), rfl⟩; (case gts => (repeat (first | exact tsok_nil | refine p_pure ?_ | refine p_op ?_ | refine p_os ?_ | refine p_eq ?_ ?_)); all_goals (rw [hgs])); (case ghs => (repeat (first | exact hsok_nil | refine q_id ?_ | refine q_idx ?_ ?_)); all_goals (rw [hgs]))
    | true =>
      have hme2 := hme rfl
      clear hme
      rw [if_pos rfl] at hgs
      have hlen1 : (goesOf (t.take (i + 1)) c v).length = G.length + 1 := by rw [hgs]; simp
      generalize c.to ++ t[i].path.drop c.path.length = Q at *
      generalize movedErr t[i].path c.path c.to = E at *
      cases hq : tooGreat Q with
      | true =>
        rw [hq, if_pos rfl] at hme2
        subst hme2
        repeat' (first | refine walk ?_ | (first | (refine o_ixo ?_) | (refine o_fzl ?_) | (refine o_appo ?_) | (apply to_call Tryd.func57 rfl rfl; intro hIsFn; refine o_callf hIsFn (hin ..) ?_; skip) | (apply to_call Tryd.func74 rfl rfl; intro hIsFn; refine o_callp hIsFn (hmv ..) ?_)) | ((first | (apply ops_split_t; rfl; rfl; exact nle rfl) | (apply ops_split_f; rfl; rfl; exact nle rfl) | (apply awp_cond; rfl)); all_goals (intro hc; have hp := hc; first | (simp at hp; done) | ((try simp at hp); first | (exfalso; omega) | skip))) | (apply awp_cond_any; rfl))
        all_goals try (exfalso; omega)
        all_goals ((apply fin_ownr (rs := [.tmp 6, .tmp 7]) [] 1; (case hr => (repeat (first | exact resok_nil | (apply resok_tmp; rfl) | (apply resok_cell; rfl; rfl; rfl; rfl; rfl)))); (case hL => rfl); (case hh => (repeat (first | exact hsok_nil | refine q_id ?_ | refine q_idx ?_ ?_)); all_goals trace_state); (case hi => first | exact (rfl : _ = ([] : List (Nat × Nat))) | exact (rfl : _ = [((0 : Nat), (0 : Nat))]) | exact (rfl : _ = [((0 : Nat), (0 : Nat)), (1, 1)])); (case hz => first | rfl | (simp [pack, AV.ren, AV.ren.renL, lookN, getT, enumT]; done) | (simp [pack, AV.ren, AV.ren.renL, lookN, getT, enumT, *]; done) | trace_state)))
      | false =>
        rw [hq, if_neg (by decide)] at hme2
        subst hme2
        rw [hq] at hbs
        have hbs : badUpto t c (i + 1) = false := hbs
        repeat' (first | refine walk ?_ | (first | (refine o_ixo ?_) | (refine o_fzl ?_) | (refine o_appo ?_) | (apply to_call Tryd.func57 rfl rfl; intro hIsFn; refine o_callf hIsFn (hin ..) ?_; skip) | (apply to_call Tryd.func74 rfl rfl; intro hIsFn; refine o_callp hIsFn (hmv ..) ?_)) | ((first | (apply ops_split_t; rfl; rfl; exact nle rfl) | (apply ops_split_f; rfl; rfl; exact nle rfl) | (apply awp_cond; rfl)); all_goals (intro hc; have hp := hc; first | (simp at hp; done) | ((try simp at hp); first | (exfalso; omega) | skip))) | (apply awp_cond_any; rfl))
        all_goals try (exfalso; omega)
        · have hrow := hmt v (if_pos (by assumption))
          clear hmt hin hmv hgt hpx lx hr hq hbad
          refine ⟨t.length - (i + 1), _, by omega, red_ren (τ := ⟨[(0, .os 0 0 t.length), (2, .v (.int .i64 v)), (4, .op 1 0 0), (8, .os 2 0 (goesOf (t.take (i + 1)) c v).length), (43, .os 0 0 t.length), (44, .v (.int .i64 t.length)), (45, .v (.int .i64 ((i + 1 : Nat) : Int)))], [(0, .own false 4 (t.map Ent.row)), (1, .own false 5 [c.row]), (2, .own false 4 ((goesOf (t.take (i + 1)) c v).map Ent.row))], 3⟩) [(1, 1), (4, 2)] rfl ?gts ?ghs, i + 1, by omega, rfl, (hbs), rfl⟩; (case gts => (repeat (first | exact tsok_nil | refine p_pure ?_ | refine p_op ?_ | refine p_os ?_ | refine p_eq ?_ ?_)); all_goals (first | (rw [hlen1]; done) | (rw [hgs, List.map_append, List.take_of_length_le (by simp)]; show _ = _ ++ [(moveTo c v t[i]).row]; rw [hrow]; rfl))); (case ghs => (repeat (first | exact hsok_nil | refine q_id ?_ | refine q_idx ?_ ?_)); all_goals (first | (rw [hlen1]; done) | (rw [hgs, List.map_append, List.take_of_length_le (by simp)]; show _ = _ ++ [(moveTo c v t[i]).row]; rw [hrow]; rfl)))
        · have hrow := hmt t[i].ver (if_neg (by assumption))
          clear hmt hin hmv hgt hpx lx hr hq hbad
          refine ⟨t.length - (i + 1), _, by omega, red_ren (τ := ⟨[(0, .os 0 0 t.length), (2, .v (.int .i64 v)), (4, .op 1 0 0), (8, .os 2 0 (goesOf (t.take (i + 1)) c v).length), (43, .os 0 0 t.length), (44, .v (.int .i64 t.length)), (45, .v (.int .i64 ((i + 1 : Nat) : Int)))], [(0, .own false 4 (t.map Ent.row)), (1, .own false 5 [c.row]), (2, .own false 4 ((goesOf (t.take (i + 1)) c v).map Ent.row))], 3⟩) [(1, 1), (4, 2)] rfl ?gts ?ghs, i + 1, by omega, rfl, (hbs), rfl⟩; (case gts => (repeat (first | exact tsok_nil | refine p_pure ?_ | refine p_op ?_ | refine p_os ?_ | refine p_eq ?_ ?_)); all_goals (first | (rw [hlen1]; done) | (rw [hgs, List.map_append, List.take_of_length_le (by simp)]; show _ = _ ++ [(moveTo c v t[i]).row]; rw [hrow]; rfl))); (case ghs => (repeat (first | exact hsok_nil | refine q_id ?_ | refine q_idx ?_ ?_)); all_goals (first | (rw [hlen1]; done) | (rw [hgs, List.map_append, List.take_of_length_le (by simp)]; show _ = _ ++ [(moveTo c v t[i]).row]; rw [hrow]; rfl)))
  · obtain rfl : i = t.length := by omega
    unfold badUpto at hsofar
    rw [List.take_length] at hsofar
    simp only [moveBad, hk, hsofar] at hbad
    simp at hbad
theorem a_done3_ok (t : List Ent) (c : Chg) (v : Int) (hl : t.length ≤ 400000) (hk : c.kind = 3) (hgt : ∀ x, x ∈ t → pathErr x.path = 0) (hc1 : pathErr c.path = 0) (hc2 : pathErr c.to = 0) (hbad : moveBad t c = false) (hs : rising entLt t = true) :
    ACall C1.P 61 [.os 0 0 t.length, .agg c.row, .v (.int .i64 v)] [.own false 4 (t.map Ent.row)] (resAV (doneE t c v) (doneL t c v).length) [.dead, .own false 4 ((doneL t c v).map Ent.row)] := by
  have l1 := pathErr_small hc1
  have l2 := pathErr_small hc2
  have hnb : ∀ x, x ∈ t → inB x.path c.path = true → tooGreat (c.to ++ x.path.drop c.path.length) = false := fun x hx hi => by
    simp only [moveBad, hk, decide_true, Bool.true_and, List.any_eq_false] at hbad
    simpa using hbad x (List.mem_filter.2 ⟨hx, hi⟩)
  have hwo := a_without t c.path (by omega) (by omega)
  have hD : doneL t c v = (goesOf t c v).foldl putT (keepE (inP c.path) t) := by simp [doneL, hk]
  have hE : doneE t c v = if 60 < (doneL t c v).length then 2 else 0 := by simp [doneE, hbad]
  have hkl : (keepE (inP c.path) t).length ≤ t.length := List.length_filter_le ..
  have hkr := keepE_rising (p := inP c.path) hs
  have hml : (t.map Ent.row).length = t.length := List.length_map ..
  refine acall_intro (C := C1) Tryd.func61 rfl _ Tryd.ntmps61 (Nat.le_of_ble_eq_true rfl) _ Tryd.results61 1 rfl rfl ?_
  repeat' (first | refine walk ?_ | fail | ((first | (apply ops_split_t; rfl; rfl; exact nle rfl) | (apply ops_split_f; rfl; rfl; exact nle rfl) | (apply awp_cond; rfl)); all_goals (intro hc; have hp := hc; first | (simp at hp; done) | ((try simp at hp); first | (exfalso; omega) | skip))) | (apply awp_cond_any; rfl))
  all_goals try (exfalso; omega)
  refine Awp.red (C := C1) (red_nil 8 4 rfl (Nat.le_of_ble_eq_true rfl)) ?_
  (refine Awp.red (red_ren (τ := ⟨[(0, .os 0 0 t.length), (2, .v (.int .i64 v)), (4, .op 1 0 0), (8, .os 2 0 0), (43, .os 0 0 t.length), (44, .v (.int .i64 t.length)), (45, .v (.int .i64 ((0 : Nat) : Int)))], [(0, .own false 4 (t.map Ent.row)), (1, .own false 5 [c.row]), (2, .own false 4 [])], 3⟩) [(1, 1), (2, 2)] rfl ?gts ?ghs) ?gmain; (case gts => (repeat (first | exact tsok_nil | refine p_pure ?_ | refine p_op ?_ | refine p_os ?_ | refine p_eq ?_ ?_))); (case ghs => (repeat (first | exact hsok_nil | refine q_id ?_ | refine q_idx ?_ ?_))))
  refine awp_loop (C := C1) (fun n σ => ∃ i : Nat, i ≤ t.length ∧ n = t.length - i ∧ True ∧ σ = ⟨[(0, .os 0 0 t.length), (2, .v (.int .i64 v)), (4, .op 1 0 0), (8, .os 2 0 (goesOf (t.take i) c v).length), (43, .os 0 0 t.length), (44, .v (.int .i64 t.length)), (45, .v (.int .i64 (i : Int)))], [(0, .own false 4 (t.map Ent.row)), (1, .own false 5 [c.row]), (2, .own false 4 ((goesOf (t.take i) c v).map Ent.row))], 3⟩) t.length ⟨0, Nat.zero_le _, rfl, trivial, rfl⟩ ?_
  rintro n σ ⟨i, hi, rfl, -, rfl⟩
  have hgl : (goesOf (t.take i) c v).length ≤ i := by
    unfold goesOf
    rw [List.length_map]
    have h1 : ((t.take i).filter (inP c.path)).length ≤ (t.take i).length := List.length_filter_le ..
    simp at h1; omega
  by_cases hlt : i < t.length
  · have hr := getRow (f := Ent.row) hlt
    have hpx := hgt t[i] (List.getElem_mem _)
    have lx := pathErr_small hpx
    have hin := a_in t[i].path c.path (by omega)
    have hgs := @goes_succ t c v i hlt
    have hmv := a_moved t[i].path c.path c.to (by omega) (by omega) (by omega)
    have hme := @moved_right t[i].path c.path c.to hpx hc1 hc2
    have hnb1 := hnb t[i] (List.getElem_mem _)
    have hmt : ∀ w, (if t[i].path = c.path then v else t[i].ver) = w → (moveTo c v t[i]).row = [.v (str (c.to ++ t[i].path.drop c.path.length)), .v (.bool t[i].fold), .v (str t[i].text), .v (.int .i64 w)] := fun w hw => by simp [moveTo, Ent.row, hw]
    generalize hG : goesOf (t.take i) c v = G at hgl hgs ⊢
    generalize inB t[i].path c.path = I at *
    cases I with
    | false =>
      rw [if_neg (by decide)] at hgs
      repeat' (first | refine walk ?_ | (first | (refine o_ixo ?_) | (refine o_fzl ?_) | (refine o_appo ?_) | (apply to_call Tryd.func57 rfl rfl; intro hIsFn; refine o_callf hIsFn (hin ..) ?_; skip) | (apply to_call Tryd.func74 rfl rfl; intro hIsFn; refine o_callp hIsFn (hmv ..) ?_)) | ((first | (apply ops_split_t; rfl; rfl; exact nle rfl) | (apply ops_split_f; rfl; rfl; exact nle rfl) | (apply awp_cond; rfl)); all_goals (intro hc; have hp := hc; first | (simp at hp; done) | ((try simp at hp); first | (exfalso; omega) | skip))) | (apply awp_cond_any; rfl))
      all_goals try (exfalso; omega)
      refine ⟨t.length - (i + 1), _, by omega, red_ren (τ := ⟨[(0, .os 0 0 t.length), (2, .v (.int .i64 v)), (4, .op 1 0 0), (8, .os 2 0 (goesOf (t.take (i + 1)) c v).length), (43, .os 0 0 t.length), (44, .v (.int .i64 t.length)), (45, .v (.int .i64 ((i + 1 : Nat) : Int)))], [(0, .own false 4 (t.map Ent.row)), (1, .own false 5 [c.row]), (2, .own false 4 ((goesOf (t.take (i + 1)) c v).map Ent.row))], 3⟩) [(1, 1), (2, 2)] rfl ?gts ?ghs, i + 1, by omega, rfl, trivial, rfl⟩; (case gts => (repeat (first | exact tsok_nil | refine p_pure ?_ | refine p_op ?_ | refine p_os ?_ | refine p_eq ?_ ?_)); all_goals (rw [hgs])); (case ghs => (repeat (first | exact hsok_nil | refine q_id ?_ | refine q_idx ?_ ?_)); all_goals (rw [hgs]))
    | true =>
      have hme2 := hme rfl
      clear hme
      rw [if_pos rfl] at hgs
      have hlen1 : (goesOf (t.take (i + 1)) c v).length = G.length + 1 := by rw [hgs]; simp
      generalize c.to ++ t[i].path.drop c.path.length = Q at *
      generalize movedErr t[i].path c.path c.to = E at *
      have hq : tooGreat Q = false := hnb1 rfl
      rw [hq, if_neg (by decide)] at hme2
      subst hme2
      repeat' (first | refine walk ?_ | (first | (refine o_ixo ?_) | (refine o_fzl ?_) | (refine o_appo ?_) | (apply to_call Tryd.func57 rfl rfl; intro hIsFn; refine o_callf hIsFn (hin ..) ?_; skip) | (apply to_call Tryd.func74 rfl rfl; intro hIsFn; refine o_callp hIsFn (hmv ..) ?_)) | ((first | (apply ops_split_t; rfl; rfl; exact nle rfl) | (apply ops_split_f; rfl; rfl; exact nle rfl) | (apply awp_cond; rfl)); all_goals (intro hc; have hp := hc; first | (simp at hp; done) | ((try simp at hp); first | (exfalso; omega) | skip))) | (apply awp_cond_any; rfl))
      all_goals try (exfalso; omega)
      · have hrow := hmt v (if_pos (by assumption))
        clear hmt hin hmv hgt hpx lx hr hq hnb hnb1 hwo hE hD
        refine ⟨t.length - (i + 1), _, by omega, red_ren (τ := ⟨[(0, .os 0 0 t.length), (2, .v (.int .i64 v)), (4, .op 1 0 0), (8, .os 2 0 (goesOf (t.take (i + 1)) c v).length), (43, .os 0 0 t.length), (44, .v (.int .i64 t.length)), (45, .v (.int .i64 ((i + 1 : Nat) : Int)))], [(0, .own false 4 (t.map Ent.row)), (1, .own false 5 [c.row]), (2, .own false 4 ((goesOf (t.take (i + 1)) c v).map Ent.row))], 3⟩) [(1, 1), (4, 2)] rfl ?gts ?ghs, i + 1, by omega, rfl, trivial, rfl⟩; (case gts => (repeat (first | exact tsok_nil | refine p_pure ?_ | refine p_op ?_ | refine p_os ?_ | refine p_eq ?_ ?_)); all_goals (first | (rw [hlen1]; done) | (rw [hgs, List.map_append, List.take_of_length_le (by simp)]; show _ = _ ++ [(moveTo c v t[i]).row]; rw [hrow]; rfl))); (case ghs => (repeat (first | exact hsok_nil | refine q_id ?_ | refine q_idx ?_ ?_)); all_goals (first | (rw [hlen1]; done) | (rw [hgs, List.map_append, List.take_of_length_le (by simp)]; show _ = _ ++ [(moveTo c v t[i]).row]; rw [hrow]; rfl)))
      · have hrow := hmt t[i].ver (if_neg (by assumption))
        clear hmt hin hmv hgt hpx lx hr hq hnb hnb1 hwo hE hD
        refine ⟨t.length - (i + 1), _, by omega, red_ren (τ := ⟨[(0, .os 0 0 t.length), (2, .v (.int .i64 v)), (4, .op 1 0 0), (8, .os 2 0 (goesOf (t.take (i + 1)) c v).length), (43, .os 0 0 t.length), (44, .v (.int .i64 t.length)), (45, .v (.int .i64 ((i + 1 : Nat) : Int)))], [(0, .own false 4 (t.map Ent.row)), (1, .own false 5 [c.row]), (2, .own false 4 ((goesOf (t.take (i + 1)) c v).map Ent.row))], 3⟩) [(1, 1), (4, 2)] rfl ?gts ?ghs, i + 1, by omega, rfl, trivial, rfl⟩; (case gts => (repeat (first | exact tsok_nil | refine p_pure ?_ | refine p_op ?_ | refine p_os ?_ | refine p_eq ?_ ?_)); all_goals (first | (rw [hlen1]; done) | (rw [hgs, List.map_append, List.take_of_length_le (by simp)]; show _ = _ ++ [(moveTo c v t[i]).row]; rw [hrow]; rfl))); (case ghs => (repeat (first | exact hsok_nil | refine q_id ?_ | refine q_idx ?_ ?_)); all_goals (first | (rw [hlen1]; done) | (rw [hgs, List.map_append, List.take_of_length_le (by simp)]; show _ = _ ++ [(moveTo c v t[i]).row]; rw [hrow]; rfl)))
  obtain rfl : i = t.length := by omega
  have hgl2 : (goesOf t c v).length ≤ t.length := by rw [List.take_length] at hgl; exact hgl
  rw [List.take_length]
  generalize hK : keepE (inP c.path) t = K at *
  generalize hGo : goesOf t c v = G at *
  generalize doneE t c v = E at *
  clear hnb hgl
  repeat' (first | refine walk ?_ | (first | (apply to_call Tryd.func73 rfl rfl; intro hIsFn; refine o_callh ([0]) 0 hIsFn (hwo ..) ?_)) | ((first | (apply ops_split_t; rfl; rfl; exact nle rfl) | (apply ops_split_f; rfl; rfl; exact nle rfl) | (apply awp_cond; rfl)); all_goals (intro hc; have hp := hc; first | (simp at hp; done) | ((try simp at hp); first | (exfalso; omega) | skip))) | (apply awp_cond_any; rfl))
  all_goals try (exfalso; omega)
  refine Awp.red (C := C1) (red_move 0 0 K.length rfl rfl (List.take_of_length_le (by simp)) (Nat.ne_of_beq_eq_false rfl) (Nat.le_of_ble_eq_true rfl)) ?_
  (refine Awp.red (red_ren (τ := ⟨[(0, .os 2 0 ((G.take 0).foldl putT K).length), (86, .os 1 0 G.length), (87, .v (.int .i64 G.length)), (88, .v (.int .i64 ((0 : Nat) : Int)))], [(1, .own false 4 (G.map Ent.row)), (2, .own false 4 (((G.take 0).foldl putT K).map Ent.row))], 3⟩) [(2, 1), (3, 2)] rfl ?gts2 ?ghs2) ?gmain2; (case gts2 => (repeat (first | exact tsok_nil | refine p_pure ?_ | refine p_op ?_ | refine p_os ?_ | refine p_eq ?_ ?_)); all_goals skip); (case ghs2 => (repeat (first | exact hsok_nil | refine q_id ?_ | refine q_idx ?_ ?_))))
  refine awp_loop (C := C1) (fun n σ => ∃ i : Nat, i ≤ G.length ∧ n = G.length - i ∧ True ∧ σ = ⟨[(0, .os 2 0 ((G.take i).foldl putT K).length), (86, .os 1 0 G.length), (87, .v (.int .i64 G.length)), (88, .v (.int .i64 (i : Int)))], [(1, .own false 4 (G.map Ent.row)), (2, .own false 4 (((G.take i).foldl putT K).map Ent.row))], 3⟩) G.length ⟨0, Nat.zero_le _, rfl, trivial, rfl⟩ ?_
  rintro n σ ⟨i, hi, rfl, -, rfl⟩
  have hLr := putAll_rising (l := G.take i) hkr
  have hLl := putAll_len (G.take i) K
  have hLs := fun h => @putAll_succ G K i h
  have htl : (G.take i).length ≤ G.length := by simp; omega
  by_cases hlt : i < G.length
  · have hr := getRow (f := Ent.row) hlt
    have hLs := hLs hlt
    generalize (G.take i).foldl putT K = L at *
    have hput := a_put L G[i] (by omega) hLr
    rw [← hLs] at hput
    repeat' (first | refine walk ?_ | (first | (refine o_ixo ?_) | (apply to_call Tryd.func72 rfl rfl; intro hIsFn; refine o_callg ([2]) 2 hIsFn (hput ..) ?_)) | ((first | (apply ops_split_t; rfl; rfl; exact nle rfl) | (apply ops_split_f; rfl; rfl; exact nle rfl) | (apply awp_cond; rfl)); all_goals (intro hc; have hp := hc; first | (simp at hp; done) | ((try simp at hp); first | (exfalso; omega) | skip))) | (apply awp_cond_any; rfl))
    all_goals try (exfalso; omega)
    clear hLr hLl hput hr hwo hE hD hkr
    refine ⟨G.length - (i + 1), _, by omega, red_ren (τ := ⟨[(0, .os 2 0 ((G.take (i + 1)).foldl putT K).length), (86, .os 1 0 G.length), (87, .v (.int .i64 G.length)), (88, .v (.int .i64 ((i + 1 : Nat) : Int)))], [(1, .own false 4 (G.map Ent.row)), (2, .own false 4 (((G.take (i + 1)).foldl putT K).map Ent.row))], 3⟩) [(1, 1), (4, 2)] rfl ?gts ?ghs, i + 1, by omega, rfl, trivial, rfl⟩; (case gts => (repeat (first | exact tsok_nil | refine p_pure ?_ | refine p_op ?_ | refine p_os ?_ | refine p_eq ?_ ?_))); (case ghs => (repeat (first | exact hsok_nil | refine q_id ?_ | refine q_idx ?_ ?_)))
  obtain rfl : i = G.length := by omega
  rw [List.take_length] at *
  rw [← hD] at *
  generalize doneL t c v = L at *
  by_cases h60 : 60 < L.length
  · rw [if_pos h60] at hE
    subst hE
    repeat' (first | refine walk ?_ | fail | ((first | (apply ops_split_t; rfl; rfl; exact nle rfl) | (apply ops_split_f; rfl; rfl; exact nle rfl) | (apply awp_cond; rfl)); all_goals (intro hc; have hp := hc; first | (simp at hp; done) | ((try simp at hp); first | (exfalso; omega) | skip))) | (apply awp_cond_any; rfl))
    all_goals try (exfalso; omega)
    (apply fin_ownr (rs := [.tmp 6, .tmp 7]) [(2, 1)] 2; (case hr => (repeat (first | exact resok_nil | (apply resok_tmp; rfl) | (apply resok_cell; rfl; rfl; rfl; rfl; rfl)))); (case hL => rfl); (case hh => (apply hsok_dead 0; exact maps_low rfl; (repeat (first | exact hsok_nil | refine q_id ?_ | refine q_idx ?_ ?_))); all_goals trace_state); (case hi => first | exact (rfl : _ = ([] : List (Nat × Nat))) | exact (rfl : _ = [((0 : Nat), (0 : Nat))]) | exact (rfl : _ = [((0 : Nat), (0 : Nat)), (1, 1)])); (case hz => first | rfl | (simp [pack, AV.ren, AV.ren.renL, lookN, getT, enumT]; done) | (simp [pack, AV.ren, AV.ren.renL, lookN, getT, enumT, *]; done) | trace_state))
  · rw [if_neg h60] at hE
    subst hE
    repeat' (first | refine walk ?_ | fail | ((first | (apply ops_split_t; rfl; rfl; exact nle rfl) | (apply ops_split_f; rfl; rfl; exact nle rfl) | (apply awp_cond; rfl)); all_goals (intro hc; have hp := hc; first | (simp at hp; done) | ((try simp at hp); first | (exfalso; omega) | skip))) | (apply awp_cond_any; rfl))
    all_goals try (exfalso; omega)
    (apply fin_ownr (rs := [.tmp 6, .tmp 7]) [(2, 1)] 2; (case hr => (repeat (first | exact resok_nil | (apply resok_tmp; rfl) | (apply resok_cell; rfl; rfl; rfl; rfl; rfl)))); (case hL => rfl); (case hh => (apply hsok_dead 0; exact maps_low rfl; (repeat (first | exact hsok_nil | refine q_id ?_ | refine q_idx ?_ ?_))); all_goals trace_state); (case hi => first | exact (rfl : _ = ([] : List (Nat × Nat))) | exact (rfl : _ = [((0 : Nat), (0 : Nat))]) | exact (rfl : _ = [((0 : Nat), (0 : Nat)), (1, 1)])); (case hz => first | rfl | (simp [pack, AV.ren, AV.ren.renL, lookN, getT, enumT]; done) | (simp [pack, AV.ren, AV.ren.renL, lookN, getT, enumT, *]; done) | trace_state))
end Go.Proofs.YtpeenheeakhlgaaDoor
