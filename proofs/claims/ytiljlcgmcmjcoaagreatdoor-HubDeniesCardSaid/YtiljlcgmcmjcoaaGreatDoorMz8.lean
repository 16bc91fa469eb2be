import Derived.Test.YtiljlcgmcmjcoaaGreatDoorMz7
/- slices.DeleteFunc over sessions, in the abstract layer; swept. -/
set_option linter.unusedSimpArgs false
set_option maxHeartbeats 1000000
namespace Go.Proofs.YtiljlcgmcmjcoaaGreatDoor
open Go.Ab Go.RowKit
set_option maxRecDepth 10000
attribute [local irreducible] Awp Ops OpsX Wanted Red ExOk Go.Ab.Fin ACall Rz RzL RzRows Enters ResOk RenV RenVL ArgV ArgVL

def zeroSess : Sess := ⟨0, [], [], 0, 0⟩
/-- What DeleteFunc leaves in the row. -/
def delRow (p : Sess → Bool) (l : List Sess) : List Sess := l.filter (fun s => !p s) ++ List.replicate (l.length - (l.filter (fun s => !p s)).length) zeroSess

theorem a_deleteFS (p : Sess → Bool) (g : FuncId) (hg : IsFn C.P g) (cap : List AV) (hcap : AV.pure.pureL cap = true) (l : List Sess) (hl : l.length ≤ 1000000) (hc : ∀ s, s ∈ l → AFn C.P g (.agg s.row :: cap) (.v (.bool (p s)))) :
    ACall C1.P 177 [.os 0 0 l.length, .clo (.func g) [] cap] [.own false 5 (l.map Sess.row)] (.os 0 0 (l.filter (fun s => !p s)).length) [.own false 5 ((delRow p l).map Sess.row)] := by
  refine acall_intro (C := C1) Tryz.func177 rfl _ Tryz.ntmps177 (Nat.le_of_ble_eq_true rfl) _ Tryz.results177 1 rfl rfl ?_
  have hidx := a_indexFS p g hg cap hcap l hl hc
  rcases idxOf_cases p l with ⟨h1, h2⟩ | ⟨k, hk, h1, h2, h3⟩
  · rw [h1] at hidx
    repeat' (first | refine walk ?_ | (first | (apply opsx_val; apply ex_call [0]; exact isFn_of Tryz.func155 rfl rfl; exact hidx; (case hz => exact rzl_cons (rz_os_pure rfl (by simp) (pures_map fun _ => rfl)) (rzl_cons (rz_clo_pure hcap) rzl_nil)); (case hfl => rfl); (case hN => exact nle rfl))) | ((first | (apply ops_split_t; rfl; rfl; exact nle rfl) | (apply ops_split_f; rfl; rfl; exact nle rfl) | (apply awp_cond; rfl)); all_goals (intro hc; have hp := hc; first | (simp at hp; done) | ((try simp at hp); first | (exfalso; omega) | skip))) | (apply awp_cond_any; rfl))
    rw [show l.filter (fun s => !p s) = l from List.filter_eq_self.2 (fun s hs => by simp [h2 s hs])]
    (apply fin_ownr (rs := [.tmp 4]) [] 1; (case hr => (repeat (first | exact resok_nil | (apply resok_tmp; rfl) | (apply resok_cell; rfl; rfl; rfl; rfl; rfl)))); (case hL => rfl); (case hh => (repeat (first | exact hsok_nil | refine q_id ?_ | refine q_idx ?_ ?_)); all_goals (apply map_eq; simp [delRow, show l.filter (fun s => !p s) = l from List.filter_eq_self.2 (fun s hs => by simp [h2 s hs])])); (case hi => first | exact (rfl : _ = ([] : List (Nat × Nat))) | exact (rfl : _ = [((0 : Nat), (0 : Nat))]) | exact (rfl : _ = [((0 : Nat), (0 : Nat)), (1, 1)])); (case hz => first | rfl | (simp [pack, AV.ren, AV.ren.renL, lookN, getT, enumT]; done) | (simp [pack, AV.ren, AV.ren.renL, lookN, getT, enumT, *]; done) | skip))
  · rw [h1] at hidx
    repeat' (first | refine walk ?_ | (first | (apply opsx_val; apply ex_call [0]; exact isFn_of Tryz.func155 rfl rfl; exact hidx; (case hz => exact rzl_cons (rz_os_pure rfl (by simp) (pures_map fun _ => rfl)) (rzl_cons (rz_clo_pure hcap) rzl_nil)); (case hfl => rfl); (case hN => exact nle rfl))) | ((first | (apply ops_split_t; rfl; rfl; exact nle rfl) | (apply ops_split_f; rfl; rfl; exact nle rfl) | (apply awp_cond; rfl)); all_goals (intro hc; have hp := hc; first | (simp at hp; done) | ((try simp at hp); first | (exfalso; omega) | skip))) | (apply awp_cond_any; rfl))
    all_goals try (exfalso; omega)
    (refine Awp.red (red_ren (τ := ⟨[(0, .os 0 0 l.length), (1, .clo (.func g) [] cap), (5, .v (.int .i64 (k : Int))), (6, .v (.int .i64 ((k + 1 : Nat) : Int)))], [(0, .own false 5 (l.map Sess.row))], 1⟩) [] rfl ?gts ?ghs) ?gmain; (case gts => (repeat (first | exact tsok_nil | refine p_pure ?_ | refine p_op ?_ | refine p_os ?_ | refine p_eq ?_ ?_))); (case ghs => (repeat (first | exact hsok_nil | refine q_id ?_ | refine q_idx ?_ ?_))))
    refine awp_loop (fun n σ => ∃ (j q : Nat) (R : List Sess), Del (fun s => !p s) l q j R ∧ n = l.length - j ∧ σ = ⟨[(0, .os 0 0 l.length), (1, .clo (.func g) [] cap), (5, .v (.int .i64 (q : Int))), (6, .v (.int .i64 (j : Int)))], [(0, .own false 5 (R.map Sess.row))], 1⟩) (l.length - (k + 1)) ⟨k + 1, k, l, Del.start hk (List.all_eq_true.2 (fun s hs => by simp [h2 s hs])) (by simp [h3]), rfl, rfl⟩ ?_
    rintro n σ ⟨j, q, R, hD, rfl, rfl⟩
    have hlen := hD.len
    have hle := hD.le
    have hjn := hD.jn
    by_cases hlt : j < l.length
    · have hcj := hc l[j] (List.getElem_mem _)
      have hRj := hD.at hlt
      have hr := getRow (f := Sess.row) (l := R) (i := j) (by omega)
      rw [hRj] at hr
      have hr2 := getRow (f := Sess.row) (l := R) (i := q) (by omega)
      repeat' (first | refine walk ?_ | (first | (refine o_ixo ?_) | (apply opsx_val; apply ex_callv []; rfl; exact hg; exact hcj; (case hz => exact rzl_cons (rz_pure rfl) (rzl_self hcap)); (case hfl => rfl); (case hN => exact nle rfl))) | ((first | (apply ops_split_t; rfl; rfl; exact nle rfl) | (apply ops_split_f; rfl; rfl; exact nle rfl) | (apply awp_cond; rfl)); all_goals (intro hc; have hp := hc; first | (simp at hp; done) | ((try simp at hp); first | (exfalso; omega) | skip))) | (apply awp_cond_any; rfl))
      all_goals try (exfalso; omega)
      · refine ⟨l.length - (j + 1), _, by omega, red_ren (τ := ⟨[(0, .os 0 0 l.length), (1, .clo (.func g) [] cap), (5, .v (.int .i64 ((q + 1 : Nat) : Int))), (6, .v (.int .i64 ((j + 1 : Nat) : Int)))], [(0, .own false 5 ((R.set q l[j]).map Sess.row))], 1⟩) [] rfl ?gts ?ghs, j + 1, q + 1, R.set q l[j], hD.keep hlt (by simp [hp]), rfl, rfl⟩
        case gts => (repeat (first | exact tsok_nil | refine p_pure ?_ | refine p_op ?_ | refine p_os ?_ | refine p_eq ?_ ?_))
        case ghs =>
          (repeat (first | exact hsok_nil | refine q_id ?_ | refine q_idx ?_ ?_))
          rw [List.map_set]; rfl
      · refine ⟨l.length - (j + 1), _, by omega, red_ren (τ := ⟨[(0, .os 0 0 l.length), (1, .clo (.func g) [] cap), (5, .v (.int .i64 (q : Int))), (6, .v (.int .i64 ((j + 1 : Nat) : Int)))], [(0, .own false 5 (R.map Sess.row))], 1⟩) [] rfl ?gts ?ghs, j + 1, q, R, hD.drop hlt (by simp [hp]), rfl, rfl⟩
        case gts => (repeat (first | exact tsok_nil | refine p_pure ?_ | refine p_op ?_ | refine p_os ?_ | refine p_eq ?_ ?_))
        case ghs => (repeat (first | exact hsok_nil | refine q_id ?_ | refine q_idx ?_ ?_))
    have hRq := hD.end_ hlt
    have hql : (l.filter (fun s => !p s)).length = q := by rw [← hRq]; simp; omega
    repeat' (first | refine walk ?_ | (first | (refine o_slo ?_) | (refine o_clr ?_)) | ((first | (apply ops_split_t; rfl; rfl; exact nle rfl) | (apply ops_split_f; rfl; rfl; exact nle rfl) | (apply awp_cond; rfl)); all_goals (intro hc; have hp := hc; first | (simp at hp; done) | ((try simp at hp); first | (exfalso; omega) | skip))) | (apply awp_cond_any; rfl))
    all_goals try (exfalso; omega)
    rw [hql]
    (apply fin_ownr (rs := [.tmp 4]) [] 1; (case hr => (repeat (first | exact resok_nil | (apply resok_tmp; rfl) | (apply resok_cell; rfl; rfl; rfl; rfl; rfl)))); (case hL => rfl); (case hh => (repeat (first | exact hsok_nil | refine q_id ?_ | refine q_idx ?_ ?_)); all_goals (rw [Nat.zero_add, List.drop_eq_nil_of_le (by simp; omega), List.append_nil, ← List.map_take, hRq, delRow, hql, List.map_append, List.map_replicate]; rfl)); (case hi => first | exact (rfl : _ = ([] : List (Nat × Nat))) | exact (rfl : _ = [((0 : Nat), (0 : Nat))]) | exact (rfl : _ = [((0 : Nat), (0 : Nat)), (1, 1)])); (case hz => first | rfl | (simp [pack, AV.ren, AV.ren.renL, lookN, getT, enumT]; done) | (simp [pack, AV.ren, AV.ren.renL, lookN, getT, enumT, *]; done) | skip))

theorem a_sweptC (s : Sess) (now : Int) : AFn C.P 178 [.agg s.row, .fp [[.v (.int .i64 now)]] 0 0] (.v (.bool (!keeps now s))) := by
  refine acall_intro Tryz.func178 rfl _ Tryz.ntmps178 (Nat.le_of_ble_eq_true rfl) _ Tryz.results178 0 rfl rfl ?_
  repeat' (first | refine walk ?_ | fail | ((first | (apply awp_cond; rfl)); all_goals (intro hc; have hp := hc; first | (simp at hp; done) | ((try simp at hp); first | (exfalso; omega) | skip))) | (apply awp_cond_any; rfl))
  all_goals (apply fin_bool; rfl; rw [Bool.eq_iff_iff]; simp [keeps])

/-- What stays in the row of a sweep. -/
def sweptRow (l : List Sess) (now : Int) : List Sess := sweptL l now ++ List.replicate (l.length - (sweptL l now).length) zeroSess
theorem delRow_swept (l : List Sess) (now : Int) : delRow (fun s => !keeps now s) l = sweptRow l now := by simp [delRow, sweptRow, sweptL]
theorem filter_swept (l : List Sess) (now : Int) : l.filter (fun s => !(fun s => !keeps now s) s) = sweptL l now := by simp [sweptL]

theorem a_swept (u : Upl) (now : Int) (hl : u.sess.length ≤ 1000000) :
    ACall C.P 154 [uplAV u, .v (.int .i64 now)] [] (.agg [.os 0 0 (sweptL u.sess now).length, .v (.int .i64 u.next), .v (.int .i64 u.lasts), .v (.int .i64 u.room)]) [.own false 5 ((sweptRow u.sess now).map Sess.row)] := by
  have hdel := a_deleteFS (fun s => !keeps now s) 178 (isFn_of Tryz.func178 rfl rfl) [.fp [[.v (.int .i64 now)]] 0 0] rfl u.sess hl (fun s _ => a_sweptC s now)
  rw [delRow_swept, filter_swept] at hdel
  refine acall_intro Tryz.func154 rfl _ Tryz.ntmps154 (Nat.le_of_ble_eq_true rfl) _ Tryz.results154 0 rfl rfl ?_
  (repeat apply awp_seq); apply awp_region; (repeat' (first | apply ops_free | refine o_ld ?_ | refine o_fa ?_ | refine o_fn ?_ | refine o_al ?_ | refine o_bx ?_ | refine o_sto ?_ | (first | fail) | refine r_nil ?_)); show Awp _ _ _ _ _
  (refine Awp.red (red_freeze 1 rfl ?_) ?_; (intro row hrow; obtain rfl := List.mem_singleton.1 hrow; rfl); refine Awp.red (red_fp 3 1 rfl rfl (Nat.le_of_ble_eq_true rfl)) ?_)
  repeat' (first | refine walk ?_ | (first | (apply to_call Tryz.func80 rfl rfl; intro hIsFn; refine o_callo ([]) hIsFn (a_cloneS u.sess hl ..) ?_) | (apply to_call Tryz.func177 rfl rfl; intro hIsFn; refine o_callh ([3]) 3 hIsFn (hdel ..) ?_)) | ((first | (apply awp_cond; rfl)); all_goals (intro hc; have hp := hc; first | (simp at hp; done) | ((try simp at hp); first | (exfalso; omega) | skip))) | (apply awp_cond_any; rfl))
  (apply fin_ownr (rs := [.cell 4 26]) [(3, 0)] 1; (case hr => (repeat (first | exact resok_nil | (apply resok_tmp; rfl) | (apply resok_cell; rfl; rfl; rfl; rfl; rfl)))); (case hL => rfl); (case hh => (repeat (first | exact hsok_nil | refine q_id ?_ | refine q_idx ?_ ?_)); all_goals trace_state); (case hi => first | exact (rfl : _ = ([] : List (Nat × Nat))) | exact (rfl : _ = [((0 : Nat), (0 : Nat))]) | exact (rfl : _ = [((0 : Nat), (0 : Nat)), (1, 1)])); (case hz => first | rfl | (simp [pack, AV.ren, AV.ren.renL, lookN, getT, enumT]; done) | (simp [pack, AV.ren, AV.ren.renL, lookN, getT, enumT, *]; done) | trace_state))
end Go.Proofs.YtiljlcgmcmjcoaaGreatDoor

/- The uploads in the abstract layer, 10: begin, Open. -/
set_option linter.unusedSimpArgs false
set_option maxHeartbeats 1000000
namespace Go.Proofs.YtiljlcgmcmjcoaaGreatDoor
open Go.Ab Go.RowKit
set_option maxRecDepth 10000
attribute [local irreducible] Awp Ops OpsX Wanted Red ExOk Go.Ab.Fin ACall Rz RzL RzRows Enters ResOk RenV RenVL ArgV ArgVL

/-- Swept uploads, their sessions in memory of our own. -/
def sweptAV (u : Upl) (now : Int) (n : Nat) : AV := .agg [.os n 0 (sweptL u.sess now).length, .v (.int .i64 u.next), .v (.int .i64 u.lasts), .v (.int .i64 u.room)]

theorem a_begin_bad (u : Upl) (hu : UBig u) (now : Int) (he : beginErr u now ≠ 0) : AFn C.P 125 [uplAV u, .v (.int .i64 now)] (.tup [uplAV noUp, .v (.int .i64 (beginErr u now))]) := by
  refine acall_intro Tryz.func125 rfl _ Tryz.ntmps125 (Nat.le_of_ble_eq_true rfl) _ Tryz.results125 0 rfl rfl ?_
  repeat' (first | refine walk ?_ | (first | (apply to_call Tryz.func31 rfl rfl; intro hIsFn; refine o_callf hIsFn (u_check u hu ..) ?_; skip) | (apply to_call Tryz.func68 rfl rfl; intro hIsFn; refine o_callf hIsFn (u_within ..) ?_; skip)) | ((first | (apply ops_split_t; rfl; rfl; exact nle rfl) | (apply ops_split_f; rfl; rfl; exact nle rfl) | (apply awp_cond; rfl)); all_goals (intro hc; have hp := hc; first | (simp at hp; done) | ((try simp at hp); first | (exfalso; omega) | skip))) | (apply awp_cond_any; rfl))
  · have h1 : beginErr u now = upErr u := by simp_all [beginErr]
    rw [h1]
    (refine f_pure (rs := [.cell 4 26, .tmp 5]) ?_; (repeat' (first | exact rzl_nil | apply rzl_cons | exact rz_pure rfl | exact rz_ex | exact z_os | apply rz_agg | apply rz_tup | apply rz_clo | apply rz_int | apply rz_bool | apply rz_str | refine z_eq ?_ | apply rz_sl)); all_goals skip)
  · have h1 : beginErr u now = 3 := by simp_all [beginErr]
    rw [h1]
    (refine f_pure (rs := [.cell 4 26, .tmp 5]) ?_; (repeat' (first | exact rzl_nil | apply rzl_cons | exact rz_pure rfl | exact rz_ex | exact z_os | apply rz_agg | apply rz_tup | apply rz_clo | apply rz_int | apply rz_bool | apply rz_str | refine z_eq ?_ | apply rz_sl)); all_goals skip)
  · exfalso; simp_all [beginErr]

theorem a_begin_ok (u : Upl) (hu : UBig u) (now : Int) (he : beginErr u now = 0) : ACall C.P 125 [uplAV u, .v (.int .i64 now)] [] (.tup [sweptAV u now 0, .v (.int .i64 0)]) [.own false 5 ((sweptRow u.sess now).map Sess.row)] := by
  have hl6 : u.sess.length ≤ 1000000 := by have := (uok he).len; omega
  have h0 := (begin_zero he).1
  refine acall_intro Tryz.func125 rfl _ Tryz.ntmps125 (Nat.le_of_ble_eq_true rfl) _ Tryz.results125 0 rfl rfl ?_
  repeat' (first | refine walk ?_ | (first | (apply to_call Tryz.func31 rfl rfl; intro hIsFn; refine o_callf hIsFn (u_check u hu ..) ?_; skip) | (apply to_call Tryz.func68 rfl rfl; intro hIsFn; refine o_callf hIsFn (u_within ..) ?_; skip) | (apply to_call Tryz.func154 rfl rfl; intro hIsFn; refine o_callo ([]) hIsFn (a_swept u now hl6 ..) ?_)) | ((first | (apply ops_split_t; rfl; rfl; exact nle rfl) | (apply ops_split_f; rfl; rfl; exact nle rfl) | (apply awp_cond; rfl)); all_goals (intro hc; have hp := hc; first | (simp at hp; done) | ((try simp at hp); first | (exfalso; omega) | skip))) | (apply awp_cond_any; rfl))
  all_goals try (exfalso; simp_all [beginErr]; done)
  (apply fin_ownr (rs := [.cell 4 26, .tmp 5]) [(2, 0)] 1; (case hr => (repeat (first | exact resok_nil | (apply resok_tmp; rfl) | (apply resok_cell; rfl; rfl; rfl; rfl; rfl)))); (case hL => rfl); (case hh => (repeat (first | exact hsok_nil | refine q_id ?_ | refine q_idx ?_ ?_)); all_goals trace_state); (case hi => first | exact (rfl : _ = ([] : List (Nat × Nat))) | exact (rfl : _ = [((0 : Nat), (0 : Nat))]) | exact (rfl : _ = [((0 : Nat), (0 : Nat)), (1, 1)])); (case hz => first | rfl | (simp [pack, AV.ren, AV.ren.renL, lookN, getT, enumT]; done) | (simp [pack, AV.ren, AV.ren.renL, lookN, getT, enumT, *]; done) | trace_state))

theorem sweptRow_take (l : List Sess) (now : Int) : ((sweptRow l now).map Sess.row).take (sweptL l now).length = (sweptL l now).map Sess.row := by
  unfold sweptRow
  rw [List.map_append, List.take_append_of_le_length (by simp), take_all_map]
theorem sweptRow_len (l : List Sess) (now : Int) : (sweptL l now).length ≤ (sweptRow l now).length := by simp [sweptRow]
theorem rz_swept {h : Nat → HB} {n : Nat} {l : List Sess} {now : Int} (hn : h n = .own false 5 ((sweptRow l now).map Sess.row)) : Rz h (.os n 0 (sweptL l now).length) (.sl false ((sweptL l now).map Sess.row)) := by
  refine rz_os hn (by simpa using sweptRow_len l now) ?_
  rw [List.drop_zero, sweptRow_take]
  exact rzrows_map fun _ => rfl

theorem within_bd {a b c : Int} (h : withinB a b c = true) : b ≤ a ∧ a ≤ c := by simpa [withinB] using h
theorem openErr_1 {u : Upl} {who : Str} {size now : Int} (hb0 : beginErr u now = 0) (h : isName who = false) : openErr u who size now = 1 := by simp [openErr, hb0, h]
theorem openErr_3a {u : Upl} {who : Str} {size now : Int} (hb0 : beginErr u now = 0) (hnm : isName who = true) (h : withinB size 0 300 = false) : openErr u who size now = 3 := by
  have hor : size < 0 ∨ 300 < size ∨ u.next = 1099511627776 := by simp [withinB] at h; omega
  simp only [openErr, hb0, hnm, hor, if_true]
theorem openErr_3b {u : Upl} {who : Str} {size now : Int} (hb0 : beginErr u now = 0) (hnm : isName who = true) (h : u.next = 1099511627776) : openErr u who size now = 3 := by
  have hor : size < 0 ∨ 300 < size ∨ u.next = 1099511627776 := .inr (.inr h)
  simp only [openErr, hb0, hnm, hor, if_true]
theorem openErr_E {u : Upl} {who : Str} {size now : Int} (hb0 : beginErr u now = 0) (hnm : isName who = true) (hwi : withinB size 0 300 = true) (hnx : ¬ u.next = 1099511627776) : openErr u who size now = if (sweptL u.sess now).length = 20 then 2 else if u.room < openOf (sweptL u.sess now) who + size then 10 else 0 := by
  have hor : ¬ (size < 0 ∨ 300 < size ∨ u.next = 1099511627776) := by simp [withinB] at hwi; omega
  simp only [openErr, hb0, hnm, hor, if_true, if_false]
theorem openErr_2 {u : Upl} {who : Str} {size now : Int} (hb0 : beginErr u now = 0) (hnm : isName who = true) (hwi : withinB size 0 300 = true) (hnx : ¬ u.next = 1099511627776) (h : ((sweptL u.sess now).length : Int) = 20) : openErr u who size now = 2 := by
  rw [openErr_E hb0 hnm hwi hnx, if_pos (by omega)]
theorem openErr_10 {u : Upl} {who : Str} {size now : Int} (hb0 : beginErr u now = 0) (hnm : isName who = true) (hwi : withinB size 0 300 = true) (hnx : ¬ u.next = 1099511627776) (h : ¬ ((sweptL u.sess now).length : Int) = 20) (h' : u.room < openOf (sweptL u.sess now) who + size) : openErr u who size now = 10 := by
  rw [openErr_E hb0 hnm hwi hnx, if_neg (by omega), if_pos h']
theorem openErr_0 {u : Upl} {who : Str} {size now : Int} (hb0 : beginErr u now = 0) (hnm : isName who = true) (hwi : withinB size 0 300 = true) (hnx : ¬ u.next = 1099511627776) (h : ¬ ((sweptL u.sess now).length : Int) = 20) (h' : openOf (sweptL u.sess now) who + size ≤ u.room) : openErr u who size now = 0 := by
  rw [openErr_E hb0 hnm hwi hnx, if_neg (by omega), if_neg (by omega)]

theorem a_openUp (u : Upl) (hu : UBig u) (who : Str) (hw : who.length ≤ 9223372036854775807) (size now : Int) :
    AFn C.P 86 [uplAV u, .v (str who), .v (.int .i64 size), .v (.int .i64 now)] (openAV u who size now) := by
  by_cases hb0 : beginErr u now = 0
  · have ok := uok hb0
    have hss : ∀ s, s ∈ sweptL u.sess now → 0 ≤ s.size ∧ s.size ≤ 300 := fun s hs => ok.sz s (sweptL_mem hs)
    have hsl : (sweptL u.sess now).length ≤ 20 := Nat.le_trans (sweptL_len _ _) ok.len
    have hsr := sweptRow_len u.sess now
    have hob := openOf_bd who hss
    obtain ⟨n0, n1, l0, l1, r0, r1, x0, x1, _, _⟩ := ok
    refine acall_intro Tryz.func86 rfl _ Tryz.ntmps86 (Nat.le_of_ble_eq_true rfl) _ Tryz.results86 0 rfl rfl ?_
    repeat' (first | refine walk ?_ | (first | (apply to_call Tryz.func125 rfl rfl; intro hIsFn; refine o_callo ([]) hIsFn (a_begin_ok u hu now hb0 ..) ?_) | (apply to_call Tryz.func37 rfl rfl; intro hIsFn; refine o_callf hIsFn (a_isName _ hw ..) ?_; skip) | (apply to_call Tryz.func68 rfl rfl; intro hIsFn; refine o_callf hIsFn (u_within ..) ?_; skip) | (apply opsx_val; apply ex_call [2]; exact isFn_of Tryz.func70 rfl rfl; apply u_open (sweptL u.sess now) who hss (by omega); (case hz => exact rzl_cons (rz_swept rfl) (rzl_cons (rz_pure rfl) rzl_nil)); (case hfl => rfl); (case hN => exact nle rfl)) | (refine o_fzl ?_) | (refine o_appo ?_) | (refine (fun (hsz : 0 ≤ size ∧ size ≤ 300) => ?_) (within_bd ?_); rotate_left; assumption; apply opsx_val; apply ex_add; rfl; rfl; omega; omega; exact nle rfl)) | ((first | (apply ops_split_t; rfl; rfl; exact nle rfl) | (apply ops_split_f; rfl; rfl; exact nle rfl) | (apply awp_cond; rfl)); all_goals (intro hc; have hp := hc; first | (simp at hp; done) | ((try simp at hp); first | (exfalso; omega) | skip))) | (apply awp_cond_any; rfl))
    all_goals try (exfalso; simp_all; done)
    all_goals first
      | (refine fin_conv (openAV_err (openErr_1 hb0 ?_) ?_) ?_; assumption; decide; (refine f_pure (rs := [.cell 8 26, .tmp 9, .tmp 10]) ?_; (repeat' (first | exact rzl_nil | apply rzl_cons | exact rz_pure rfl | exact rz_ex | exact z_os | apply rz_agg | apply rz_tup | apply rz_clo | apply rz_int | apply rz_bool | apply rz_str | refine z_eq ?_ | apply rz_sl)); all_goals skip))
      | (refine fin_conv (openAV_err (openErr_3a hb0 ?_ ?_) ?_) ?_; assumption; assumption; decide; (refine f_pure (rs := [.cell 8 26, .tmp 9, .tmp 10]) ?_; (repeat' (first | exact rzl_nil | apply rzl_cons | exact rz_pure rfl | exact rz_ex | exact z_os | apply rz_agg | apply rz_tup | apply rz_clo | apply rz_int | apply rz_bool | apply rz_str | refine z_eq ?_ | apply rz_sl)); all_goals skip))
      | (refine fin_conv (openAV_err (openErr_3b hb0 ?_ ?_) ?_) ?_; assumption; assumption; decide; (refine f_pure (rs := [.cell 8 26, .tmp 9, .tmp 10]) ?_; (repeat' (first | exact rzl_nil | apply rzl_cons | exact rz_pure rfl | exact rz_ex | exact z_os | apply rz_agg | apply rz_tup | apply rz_clo | apply rz_int | apply rz_bool | apply rz_str | refine z_eq ?_ | apply rz_sl)); all_goals skip))
      | (refine fin_conv (openAV_err (openErr_2 hb0 ?_ ?_ ?_ ?_) ?_) ?_; assumption; assumption; assumption; assumption; decide; (refine f_pure (rs := [.cell 8 26, .tmp 9, .tmp 10]) ?_; (repeat' (first | exact rzl_nil | apply rzl_cons | exact rz_pure rfl | exact rz_ex | exact z_os | apply rz_agg | apply rz_tup | apply rz_clo | apply rz_int | apply rz_bool | apply rz_str | refine z_eq ?_ | apply rz_sl)); all_goals skip))
      | (refine fin_conv (openAV_err (openErr_10 hb0 ?_ ?_ ?_ ?_ ?_) ?_) ?_; assumption; assumption; assumption; assumption; assumption; decide; (refine f_pure (rs := [.cell 8 26, .tmp 9, .tmp 10]) ?_; (repeat' (first | exact rzl_nil | apply rzl_cons | exact rz_pure rfl | exact rz_ex | exact z_os | apply rz_agg | apply rz_tup | apply rz_clo | apply rz_int | apply rz_bool | apply rz_str | refine z_eq ?_ | apply rz_sl)); all_goals skip))
      | skip
    refine fin_conv (openAV_ok (openErr_0 hb0 ?_ ?_ ?_ ?_ ?_)) ?_
    iterate 5 first | assumption | omega
    (refine f_pure (rs := [.cell 8 26, .tmp 9, .tmp 10]) ?_; (repeat' (first | exact rzl_nil | apply rzl_cons | exact rz_pure rfl | exact rz_ex | exact z_os | apply rz_agg | apply rz_tup | apply rz_clo | apply rz_int | apply rz_bool | apply rz_str | refine z_eq ?_ | apply rz_sl)); all_goals (rw [sweptRow_take, show (openU u who size now).sess = sweptL u.sess now ++ [⟨u.next, who, [], size, now + u.lasts⟩] from rfl, List.map_append]; rfl))
  · refine acall_intro Tryz.func86 rfl _ Tryz.ntmps86 (Nat.le_of_ble_eq_true rfl) _ Tryz.results86 0 rfl rfl ?_
    repeat' (first | refine walk ?_ | (first | (apply to_call Tryz.func125 rfl rfl; intro hIsFn; refine o_callp hIsFn (a_begin_bad u hu now hb0 ..) ?_)) | ((first | (apply ops_split_t; rfl; rfl; exact nle rfl) | (apply ops_split_f; rfl; rfl; exact nle rfl) | (apply awp_cond; rfl)); all_goals (intro hc; have hp := hc; first | (simp at hp; done) | ((try simp at hp); first | (exfalso; omega) | skip))) | (apply awp_cond_any; rfl))
    all_goals try (exfalso; simp_all; done)
    rw [openAV_err (e := beginErr u now) (by simp [openErr, hb0]) hb0]
    (refine f_pure (rs := [.cell 8 26, .tmp 9, .tmp 10]) ?_; (repeat' (first | exact rzl_nil | apply rzl_cons | exact rz_pure rfl | exact rz_ex | exact z_os | apply rz_agg | apply rz_tup | apply rz_clo | apply rz_int | apply rz_bool | apply rz_str | refine z_eq ?_ | apply rz_sl)); all_goals skip)
end Go.Proofs.YtiljlcgmcmjcoaaGreatDoor

/- The uploads in the abstract layer, 11: mine, Query. -/
set_option linter.unusedSimpArgs false
set_option maxHeartbeats 1000000
namespace Go.Proofs.YtiljlcgmcmjcoaaGreatDoor
open Go.Ab Go.RowKit
set_option maxRecDepth 10000
attribute [local irreducible] Awp Ops OpsX Wanted Red ExOk Go.Ab.Fin ACall Rz RzL RzRows Enters ResOk RenV RenVL ArgV ArgVL

def mineErr (u : Upl) (who : Str) (number now : Int) : Int :=
  if beginErr u now = 0 then
    if isName who then
      if idxOf (isMine who number) (sweptL u.sess now) < 0 then 5 else 0
    else 1
  else beginErr u now

theorem a_mineC (s : Sess) (who : Str) (number : Int) : AFn C.P 156 [.agg s.row, .fp [[.v (.int .i64 number)]] 0 0, .fp [[.v (str who)]] 0 0] (.v (.bool (isMine who number s))) := by
  refine acall_intro Tryz.func156 rfl _ Tryz.ntmps156 (Nat.le_of_ble_eq_true rfl) _ Tryz.results156 0 rfl rfl ?_
  repeat' (first | refine walk ?_ | fail | ((first | (apply ops_split_t; rfl; rfl; exact nle rfl) | (apply ops_split_f; rfl; rfl; exact nle rfl) | (apply awp_cond; rfl)); all_goals (intro hc; have hp := hc; first | (simp at hp; done) | ((try simp at hp); first | (exfalso; omega) | skip))) | (apply awp_cond_any; rfl))
  all_goals (apply fin_bool; rfl; simp_all [isMine])

theorem a_mine_bad (u : Upl) (hu : UBig u) (who : Str) (hw : who.length ≤ 9223372036854775807) (number now : Int) (he : mineErr u who number now ≠ 0) :
    AFn C.P 126 [uplAV u, .v (str who), .v (.int .i64 number), .v (.int .i64 now)] (tupUp noUp 0 (mineErr u who number now)) := by
  by_cases hb0 : beginErr u now = 0
  · have ok := uok hb0
    have hl6 : (sweptL u.sess now).length ≤ 1000000 := by have := sweptL_len u.sess now; have := ok.len; omega
    have hidx := a_indexFS (isMine who number) 156 (isFn_of Tryz.func156 rfl rfl) [.fp [[.v (.int .i64 number)]] 0 0, .fp [[.v (str who)]] 0 0] rfl (sweptL u.sess now) hl6 (fun s _ => a_mineC s who number)
    refine acall_intro Tryz.func126 rfl _ Tryz.ntmps126 (Nat.le_of_ble_eq_true rfl) _ Tryz.results126 0 rfl rfl ?_
    (repeat apply awp_seq); apply awp_region; (repeat' (first | apply ops_free | refine o_mv ?_ | refine o_as ?_ | refine o_ld ?_ | refine o_fa ?_ | refine o_bi ?_ | refine o_pk ?_ | refine o_ln ?_ | refine o_ia ?_ | refine o_ix ?_ | refine o_no ?_ | refine o_ex ?_ | refine o_fi ?_ | refine o_fn ?_ | refine o_nc ?_ | refine o_bu ?_ | refine o_al ?_ | refine o_bx ?_ | refine o_sto ?_ | (first | fail) | refine r_nil ?_ | refine g_on_t ?_ | refine g_on_f ?_ | refine g_off_t ?_ | refine g_off_f ?_ | refine g_unw ?_ | refine g_yes ?_ | refine g_no_t ?_ | refine g_no_f ?_ | ((first | refine g_sp_t ?_ ?_ | refine g_sp_f ?_ ?_); all_goals (intro hc; have hp := hc; first | (simp at hp; done) | ((try simp at hp); first | (exfalso; omega) | skip))))); show Awp _ _ _ _ _
    (refine Awp.red (red_freeze 1 rfl ?_) ?_; (intro row hrow; obtain rfl := List.mem_singleton.1 hrow; rfl); refine Awp.red (red_fp 5 1 rfl rfl (Nat.le_of_ble_eq_true rfl)) ?_)
    (refine Awp.red (red_freeze 2 rfl ?_) ?_; (intro row hrow; obtain rfl := List.mem_singleton.1 hrow; rfl); refine Awp.red (red_fp 6 2 rfl rfl (Nat.le_of_ble_eq_true rfl)) ?_)
    repeat' (first | refine walk ?_ | (first | (apply to_call Tryz.func125 rfl rfl; intro hIsFn; refine o_callo ([]) hIsFn (a_begin_ok u hu now hb0 ..) ?_) | (apply to_call Tryz.func37 rfl rfl; intro hIsFn; refine o_callf hIsFn (a_isName _ hw ..) ?_; skip) | (apply opsx_val; apply ex_call [4]; exact isFn_of Tryz.func155 rfl rfl; exact hidx; (case hz => exact rzl_cons (rz_swept rfl) (rzl_cons (rz_clo_pure rfl) rzl_nil)); (case hfl => rfl); (case hN => exact nle rfl))) | ((first | (apply ops_split_t; rfl; rfl; exact nle rfl) | (apply ops_split_f; rfl; rfl; exact nle rfl) | (apply awp_cond; rfl)); all_goals (intro hc; have hp := hc; first | (simp at hp; done) | ((try simp at hp); first | (exfalso; omega) | skip))) | (apply awp_cond_any; rfl))
    all_goals try (exfalso; simp_all; done)
    · have h1 : mineErr u who number now = 1 := by simp [mineErr, hb0, hp]
      rw [h1]
      (refine f_pure (rs := [.cell 8 26, .tmp 9, .tmp 10]) ?_; (repeat' (first | exact rzl_nil | apply rzl_cons | exact rz_pure rfl | exact rz_ex | exact z_os | apply rz_agg | apply rz_tup | apply rz_clo | apply rz_int | apply rz_bool | apply rz_str | refine z_eq ?_ | apply rz_sl)); all_goals skip)
    · have hnm : isName who = true := by assumption
      have h1 : mineErr u who number now = 5 := by simp [mineErr, hb0, hnm, hp]
      rw [h1]
      (refine f_pure (rs := [.cell 8 26, .tmp 9, .tmp 10]) ?_; (repeat' (first | exact rzl_nil | apply rzl_cons | exact rz_pure rfl | exact rz_ex | exact z_os | apply rz_agg | apply rz_tup | apply rz_clo | apply rz_int | apply rz_bool | apply rz_str | refine z_eq ?_ | apply rz_sl)); all_goals skip)
    · exfalso
      have hnm : isName who = true := by assumption
      have : ¬ idxOf (isMine who number) (sweptL u.sess now) < 0 := by omega
      exact he (by simp [mineErr, hb0, hnm, this])
  · refine acall_intro Tryz.func126 rfl _ Tryz.ntmps126 (Nat.le_of_ble_eq_true rfl) _ Tryz.results126 0 rfl rfl ?_
    repeat' (first | refine walk ?_ | (first | (apply to_call Tryz.func125 rfl rfl; intro hIsFn; refine o_callp hIsFn (a_begin_bad u hu now hb0 ..) ?_)) | ((first | (apply ops_split_t; rfl; rfl; exact nle rfl) | (apply ops_split_f; rfl; rfl; exact nle rfl) | (apply awp_cond; rfl)); all_goals (intro hc; have hp := hc; first | (simp at hp; done) | ((try simp at hp); first | (exfalso; omega) | skip))) | (apply awp_cond_any; rfl))
    all_goals try (exfalso; simp_all; done)
    rw [show mineErr u who number now = beginErr u now from by simp [mineErr, hb0]]
    (refine f_pure (rs := [.cell 8 26, .tmp 9, .tmp 10]) ?_; (repeat' (first | exact rzl_nil | apply rzl_cons | exact rz_pure rfl | exact rz_ex | exact z_os | apply rz_agg | apply rz_tup | apply rz_clo | apply rz_int | apply rz_bool | apply rz_str | refine z_eq ?_ | apply rz_sl)); all_goals skip)

theorem a_mine_ok (u : Upl) (hu : UBig u) (who : Str) (hw : who.length ≤ 9223372036854775807) (number now : Int) (hb0 : beginErr u now = 0) (hnm : isName who = true) (k : Nat) (hk : idxOf (isMine who number) (sweptL u.sess now) = k) :
    ACall C.P 126 [uplAV u, .v (str who), .v (.int .i64 number), .v (.int .i64 now)] [] (.tup [sweptAV u now 0, .v (.int .i64 k), .v (.int .i64 0)]) [.own false 5 ((sweptRow u.sess now).map Sess.row)] := by
  have ok := uok hb0
  have hl6 : (sweptL u.sess now).length ≤ 1000000 := by have := sweptL_len u.sess now; have := ok.len; omega
  have hidx := a_indexFS (isMine who number) 156 (isFn_of Tryz.func156 rfl rfl) [.fp [[.v (.int .i64 number)]] 0 0, .fp [[.v (str who)]] 0 0] rfl (sweptL u.sess now) hl6 (fun s _ => a_mineC s who number)
  rw [hk] at hidx
  refine acall_intro Tryz.func126 rfl _ Tryz.ntmps126 (Nat.le_of_ble_eq_true rfl) _ Tryz.results126 0 rfl rfl ?_
  (repeat apply awp_seq); apply awp_region; (repeat' (first | apply ops_free | refine o_mv ?_ | refine o_as ?_ | refine o_ld ?_ | refine o_fa ?_ | refine o_bi ?_ | refine o_pk ?_ | refine o_ln ?_ | refine o_ia ?_ | refine o_ix ?_ | refine o_no ?_ | refine o_ex ?_ | refine o_fi ?_ | refine o_fn ?_ | refine o_nc ?_ | refine o_bu ?_ | refine o_al ?_ | refine o_bx ?_ | refine o_sto ?_ | (first | fail) | refine r_nil ?_ | refine g_on_t ?_ | refine g_on_f ?_ | refine g_off_t ?_ | refine g_off_f ?_ | refine g_unw ?_ | refine g_yes ?_ | refine g_no_t ?_ | refine g_no_f ?_ | ((first | refine g_sp_t ?_ ?_ | refine g_sp_f ?_ ?_); all_goals (intro hc; have hp := hc; first | (simp at hp; done) | ((try simp at hp); first | (exfalso; omega) | skip))))); show Awp _ _ _ _ _
  (refine Awp.red (red_freeze 1 rfl ?_) ?_; (intro row hrow; obtain rfl := List.mem_singleton.1 hrow; rfl); refine Awp.red (red_fp 5 1 rfl rfl (Nat.le_of_ble_eq_true rfl)) ?_)
  (refine Awp.red (red_freeze 2 rfl ?_) ?_; (intro row hrow; obtain rfl := List.mem_singleton.1 hrow; rfl); refine Awp.red (red_fp 6 2 rfl rfl (Nat.le_of_ble_eq_true rfl)) ?_)
  repeat' (first | refine walk ?_ | (first | (apply to_call Tryz.func125 rfl rfl; intro hIsFn; refine o_callo ([]) hIsFn (a_begin_ok u hu now hb0 ..) ?_) | (apply to_call Tryz.func37 rfl rfl; intro hIsFn; refine o_callf hIsFn (a_isName _ hw ..) ?_; skip) | (apply opsx_val; apply ex_call [4]; exact isFn_of Tryz.func155 rfl rfl; exact hidx; (case hz => exact rzl_cons (rz_swept rfl) (rzl_cons (rz_clo_pure rfl) rzl_nil)); (case hfl => rfl); (case hN => exact nle rfl))) | ((first | (apply ops_split_t; rfl; rfl; exact nle rfl) | (apply ops_split_f; rfl; rfl; exact nle rfl) | (apply awp_cond; rfl)); all_goals (intro hc; have hp := hc; first | (simp at hp; done) | ((try simp at hp); first | (exfalso; omega) | skip))) | (apply awp_cond_any; rfl))
  all_goals try (exfalso; simp_all; done)
  all_goals try (exfalso; omega)
  (apply fin_ownr (rs := [.cell 8 26, .tmp 9, .tmp 10]) [(4, 0)] 1; (case hr => (repeat (first | exact resok_nil | (apply resok_tmp; rfl) | (apply resok_cell; rfl; rfl; rfl; rfl; rfl)))); (case hL => rfl); (case hh => (repeat (first | exact hsok_nil | refine q_id ?_ | refine q_idx ?_ ?_)); all_goals trace_state); (case hi => first | exact (rfl : _ = ([] : List (Nat × Nat))) | exact (rfl : _ = [((0 : Nat), (0 : Nat))]) | exact (rfl : _ = [((0 : Nat), (0 : Nat)), (1, 1)])); (case hz => first | rfl | (simp [pack, AV.ren, AV.ren.renL, lookN, getT, enumT]; done) | (simp [pack, AV.ren, AV.ren.renL, lookN, getT, enumT, *]; done) | trace_state))
end Go.Proofs.YtiljlcgmcmjcoaaGreatDoor

/- The uploads in the abstract layer, 12: Query, Append. -/
set_option linter.unusedSimpArgs false
set_option maxHeartbeats 1000000
namespace Go.Proofs.YtiljlcgmcmjcoaaGreatDoor
open Go.Ab Go.RowKit
set_option maxRecDepth 10000
attribute [local irreducible] Awp Ops OpsX Wanted Red ExOk Go.Ab.Fin ACall Rz RzL RzRows Enters ResOk RenV RenVL ArgV ArgVL

theorem sweptRow_at {l : List Sess} {now : Int} {k : Nat} {s : Sess} (h : (sweptL l now)[k]? = some s) : ((sweptRow l now).map Sess.row)[k]? = some s.row := by
  unfold sweptRow
  rw [List.map_append, List.getElem?_append_left (by have := (List.getElem?_eq_some_iff.1 h).1; simpa using this), List.getElem?_map, h]; rfl

theorem a_query_bad (u : Upl) (hu : UBig u) (who : Str) (hw : who.length ≤ 9223372036854775807) (number now : Int) (he : mineErr u who number now ≠ 0) :
    AFn C.P 88 [uplAV u, .v (str who), .v (.int .i64 number), .v (.int .i64 now)] (.tup [.v (.int .i64 0), .v (.int .i64 (mineErr u who number now))]) := by
  refine acall_intro Tryz.func88 rfl _ Tryz.ntmps88 (Nat.le_of_ble_eq_true rfl) _ Tryz.results88 0 rfl rfl ?_
  repeat' (first | refine walk ?_ | (first | (apply to_call Tryz.func126 rfl rfl; intro hIsFn; refine o_callp hIsFn (a_mine_bad u hu who hw number now he ..) ?_)) | ((first | (apply ops_split_t; rfl; rfl; exact nle rfl) | (apply ops_split_f; rfl; rfl; exact nle rfl) | (apply awp_cond; rfl)); all_goals (intro hc; have hp := hc; first | (simp at hp; done) | ((try simp at hp); first | (exfalso; omega) | skip))) | (apply awp_cond_any; rfl))
  all_goals try (exfalso; simp_all; done)
  (refine f_pure (rs := [.tmp 8, .tmp 9]) ?_; (repeat' (first | exact rzl_nil | apply rzl_cons | exact rz_pure rfl | exact rz_ex | exact z_os | apply rz_agg | apply rz_tup | apply rz_clo | apply rz_int | apply rz_bool | apply rz_str | refine z_eq ?_ | apply rz_sl)); all_goals skip)

theorem a_query_ok (u : Upl) (hu : UBig u) (who : Str) (hw : who.length ≤ 9223372036854775807) (number now : Int) (hb0 : beginErr u now = 0) (hnm : isName who = true) (k : Nat) (hk : idxOf (isMine who number) (sweptL u.sess now) = k) (s : Sess) (hs : (sweptL u.sess now)[k]? = some s) (_hst : s.text.length ≤ 9223372036854775807) :
    AFn C.P 88 [uplAV u, .v (str who), .v (.int .i64 number), .v (.int .i64 now)] (.tup [.v (.int .i64 s.text.length), .v (.int .i64 0)]) := by
  have hkl : k < (sweptL u.sess now).length := (List.getElem?_eq_some_iff.1 hs).1
  have hr := sweptRow_at hs
  refine acall_intro Tryz.func88 rfl _ Tryz.ntmps88 (Nat.le_of_ble_eq_true rfl) _ Tryz.results88 0 rfl rfl ?_
  repeat' (first | refine walk ?_ | (first | (apply to_call Tryz.func126 rfl rfl; intro hIsFn; refine o_callo ([]) hIsFn (a_mine_ok u hu who hw number now hb0 hnm k hk ..) ?_) | (refine o_ixo ?_)) | ((first | (apply ops_split_t; rfl; rfl; exact nle rfl) | (apply ops_split_f; rfl; rfl; exact nle rfl) | (apply awp_cond; rfl)); all_goals (intro hc; have hp := hc; first | (simp at hp; done) | ((try simp at hp); first | (exfalso; omega) | skip))) | (apply awp_cond_any; rfl))
  all_goals try (exfalso; simp_all; done)
  (refine f_pure (rs := [.tmp 8, .tmp 9]) ?_; (repeat' (first | exact rzl_nil | apply rzl_cons | exact rz_pure rfl | exact rz_ex | exact z_os | apply rz_agg | apply rz_tup | apply rz_clo | apply rz_int | apply rz_bool | apply rz_str | refine z_eq ?_ | apply rz_sl)); all_goals skip)

/-- Is that piece there already? -/
def againB (t : Str) (offset : Int) (x : Str) : Bool := withinB offset 0 t.length && decide (t.drop offset.toNat = x)
def appE (s : Sess) (offset : Int) (text : Str) : Int := if againB s.text offset text then 0 else if offset = s.text.length then (if s.size < s.text.length + text.length then 2 else 0) else 4
def appS (s : Sess) (offset : Int) (text : Str) (till : Int) : Sess := if againB s.text offset text then s else { s with text := s.text ++ text, till := till }
def appAV (u : Upl) (k : Nat) (s : Sess) (offset : Int) (text : Str) (now : Int) : AV :=
  if appE s offset text = 0 then tupUp { u with sess := (sweptL u.sess now).set k (appS s offset text (now + u.lasts)) } (appS s offset text (now + u.lasts)).text.length 0 else tupUp noUp 0 (appE s offset text)
theorem appAV_err {u : Upl} {k : Nat} {s : Sess} {offset : Int} {text : Str} {now e : Int} (h : appE s offset text = e) (h0 : e ≠ 0) : appAV u k s offset text now = tupUp noUp 0 e := by unfold appAV; rw [h, if_neg h0]
theorem appAV_again {u : Upl} {k : Nat} {s : Sess} {offset : Int} {text : Str} {now : Int} (h : againB s.text offset text = true) (hs : (sweptL u.sess now)[k]? = some s) : appAV u k s offset text now = tupUp (sweptU u now) s.text.length 0 := by
  unfold appAV appE appS
  simp only [h, if_true]
  obtain ⟨hk, e⟩ := List.getElem?_eq_some_iff.1 hs
  rw [← e, List.set_getElem_self]; rfl
theorem appAV_new {u : Upl} {k : Nat} {s : Sess} {offset : Int} {text : Str} {now : Int} (h : againB s.text offset text = false) (h1 : offset = s.text.length) (h2 : ¬ s.size < s.text.length + text.length) :
    appAV u k s offset text now = tupUp { u with sess := (sweptL u.sess now).set k { s with text := s.text ++ text, till := now + u.lasts } } (s.text ++ text).length 0 := by
  have he : appE s offset text = 0 := by unfold appE; rw [h, if_neg (by simp), if_pos h1, if_neg h2]
  unfold appAV
  rw [if_pos he]
  unfold appS
  rw [h, if_neg (by simp)]
theorem appE_4 {s : Sess} {offset : Int} {text : Str} (h : againB s.text offset text = false) (h1 : ¬ offset = s.text.length) : appE s offset text = 4 := by unfold appE; rw [h, if_neg (by simp), if_neg h1]
theorem appE_2 {s : Sess} {offset : Int} {text : Str} (h : againB s.text offset text = false) (h1 : offset = s.text.length) (h2 : (s.size < s.text.length + text.length)) : appE s offset text = 2 := by unfold appE; rw [h, if_neg (by simp), if_pos h1, if_pos h2]

theorem rz_swept_set {h : Nat → HB} {n k : Nat} {l : List Sess} {now : Int} {s : Sess} {row : List AV} (hn : h n = .own false 5 (((sweptRow l now).map Sess.row).set k row)) (hrow : row = s.row) : Rz h (.os n 0 (sweptL l now).length) (.sl false (((sweptL l now).set k s).map Sess.row)) := by
  subst hrow
  have hlen := sweptRow_len l now
  refine rz_os hn (by simpa using hlen) ?_
  rw [List.drop_zero, List.take_set, sweptRow_take, ← List.map_set]
  exact rzrows_map fun _ => rfl

theorem rz_swept_set2 {h : Nat → HB} {n k : Nat} {l : List Sess} {now : Int} {s : Sess} {row0 row : List AV} (hn : h n = .own false 5 ((((sweptRow l now).map Sess.row).set k row0).set k row)) (hrow : row = s.row) : Rz h (.os n 0 (sweptL l now).length) (.sl false (((sweptL l now).set k s).map Sess.row)) := by
  rw [List.set_set] at hn
  exact rz_swept_set hn hrow

theorem a_append_ok (u : Upl) (hu : UBig u) (who : Str) (hw : who.length ≤ 9223372036854775807) (number now : Int) (hb0 : beginErr u now = 0) (hnm : isName who = true) (k : Nat) (hk : idxOf (isMine who number) (sweptL u.sess now) = k) (s : Sess) (hs : (sweptL u.sess now)[k]? = some s) (hst : s.text.length ≤ 1000)
    (offset : Int) (text : Str) (htx : text.length ≤ 140737488355328) :
    AFn C.P 87 [uplAV u, .v (str who), .v (.int .i64 number), .v (.int .i64 offset), .v (str text), .v (.int .i64 now)] (appAV u k s offset text now) := by
  have ok := uok hb0
  have hkl : k < (sweptL u.sess now).length := (List.getElem?_eq_some_iff.1 hs).1
  have hr := sweptRow_at hs
  obtain ⟨n0, n1, l0, l1, r0, r1, x0, x1, _, _⟩ := ok
  by_cases hin : withinB offset 0 s.text.length = true
  · obtain ⟨n, rfl⟩ : ∃ n : Nat, offset = n := ⟨offset.toNat, by simp [withinB] at hin; omega⟩
    have hnl : n ≤ s.text.length := by simp [withinB] at hin; omega
    have hag : againB s.text n text = decide ((s.text.take s.text.length).drop n = text) := by simp [againB, hin]
    refine acall_intro Tryz.func87 rfl _ Tryz.ntmps87 (Nat.le_of_ble_eq_true rfl) _ Tryz.results87 0 rfl rfl ?_
    repeat' (first | refine walk ?_ | (first | (apply to_call Tryz.func126 rfl rfl; intro hIsFn; refine o_callo ([]) hIsFn (a_mine_ok u hu who hw number now hb0 hnm k hk ..) ?_) | (refine o_ixo ?_) | (apply to_call Tryz.func68 rfl rfl; intro hIsFn; refine o_callf hIsFn (u_within ..) ?_; skip) | (refine o_sls ?_)) | ((first | (apply ops_split_t; rfl; rfl; exact nle rfl) | (apply ops_split_f; rfl; rfl; exact nle rfl) | (apply awp_cond; rfl)); all_goals (intro hc; have hp := hc; first | (simp at hp; done) | ((try simp at hp); first | (exfalso; omega) | skip))) | (apply awp_cond_any; rfl))
    all_goals try (exfalso; simp_all; done)
    · have ha : againB s.text n text = true := hag.trans hc
      refine fin_conv (appAV_again ha hs) ?_
      (refine f_pure (rs := [.cell 12 26, .tmp 13, .tmp 14]) ?_; (repeat' (first | (apply rz_swept; rfl) | exact rzl_nil | apply rzl_cons | exact rz_pure rfl | exact rz_ex | exact z_os | apply rz_agg | apply rz_tup | apply rz_clo | apply rz_int | apply rz_bool | apply rz_str | refine z_eq ?_ | apply rz_sl)); all_goals trace_state)
    all_goals have ha : againB s.text n text = false := hag.trans (by assumption)
    · refine fin_conv (appAV_err (appE_4 ha hp) (by decide)) ?_
      (refine f_pure (rs := [.cell 12 26, .tmp 13, .tmp 14]) ?_; (repeat' (first | exact rzl_nil | apply rzl_cons | exact rz_pure rfl | exact rz_ex | exact z_os | apply rz_agg | apply rz_tup | apply rz_clo | apply rz_int | apply rz_bool | apply rz_str | refine z_eq ?_ | apply rz_sl)); all_goals skip)
    · refine fin_conv (appAV_err (appE_2 ha (by assumption) hp) (by decide)) ?_
      (refine f_pure (rs := [.cell 12 26, .tmp 13, .tmp 14]) ?_; (repeat' (first | exact rzl_nil | apply rzl_cons | exact rz_pure rfl | exact rz_ex | exact z_os | apply rz_agg | apply rz_tup | apply rz_clo | apply rz_int | apply rz_bool | apply rz_str | refine z_eq ?_ | apply rz_sl)); all_goals skip)
    · refine fin_conv (appAV_new ha (by assumption) (by omega)) ?_
      (refine f_pure (rs := [.cell 12 26, .tmp 13, .tmp 14]) ?_; (repeat' (first | (apply rz_swept_set2; (case hn => rfl); (case hrow => rfl)) | exact rzl_nil | apply rzl_cons | exact rz_pure rfl | exact rz_ex | exact z_os | apply rz_agg | apply rz_tup | apply rz_clo | apply rz_int | apply rz_bool | apply rz_str | refine z_eq ?_ | apply rz_sl)); all_goals trace_state)
  · have hin : withinB offset 0 s.text.length = false := by simpa using hin
    have ha : againB s.text offset text = false := by simp [againB, hin]
    refine acall_intro Tryz.func87 rfl _ Tryz.ntmps87 (Nat.le_of_ble_eq_true rfl) _ Tryz.results87 0 rfl rfl ?_
    repeat' (first | refine walk ?_ | (first | (apply to_call Tryz.func126 rfl rfl; intro hIsFn; refine o_callo ([]) hIsFn (a_mine_ok u hu who hw number now hb0 hnm k hk ..) ?_) | (refine o_ixo ?_) | (apply to_call Tryz.func68 rfl rfl; intro hIsFn; refine o_callf hIsFn (u_within ..) ?_; skip)) | ((first | (apply ops_split_t; rfl; rfl; exact nle rfl) | (apply ops_split_f; rfl; rfl; exact nle rfl) | (apply awp_cond; rfl)); all_goals (intro hc; have hp := hc; first | (simp at hp; done) | ((try simp at hp); first | (exfalso; omega) | skip))) | (apply awp_cond_any; rfl))
    all_goals try (exfalso; simp_all; done)
    · refine fin_conv (appAV_err (appE_4 ha hp) (by decide)) ?_
      (refine f_pure (rs := [.cell 12 26, .tmp 13, .tmp 14]) ?_; (repeat' (first | exact rzl_nil | apply rzl_cons | exact rz_pure rfl | exact rz_ex | exact z_os | apply rz_agg | apply rz_tup | apply rz_clo | apply rz_int | apply rz_bool | apply rz_str | refine z_eq ?_ | apply rz_sl)); all_goals skip)
    all_goals (exfalso; simp [withinB] at hin; omega)

theorem a_append_bad (u : Upl) (hu : UBig u) (who : Str) (hw : who.length ≤ 9223372036854775807) (number now : Int) (he : mineErr u who number now ≠ 0) (offset : Int) (text : Str) :
    AFn C.P 87 [uplAV u, .v (str who), .v (.int .i64 number), .v (.int .i64 offset), .v (str text), .v (.int .i64 now)] (tupUp noUp 0 (mineErr u who number now)) := by
  refine acall_intro Tryz.func87 rfl _ Tryz.ntmps87 (Nat.le_of_ble_eq_true rfl) _ Tryz.results87 0 rfl rfl ?_
  repeat' (first | refine walk ?_ | (first | (apply to_call Tryz.func126 rfl rfl; intro hIsFn; refine o_callp hIsFn (a_mine_bad u hu who hw number now he ..) ?_)) | ((first | (apply ops_split_t; rfl; rfl; exact nle rfl) | (apply ops_split_f; rfl; rfl; exact nle rfl) | (apply awp_cond; rfl)); all_goals (intro hc; have hp := hc; first | (simp at hp; done) | ((try simp at hp); first | (exfalso; omega) | skip))) | (apply awp_cond_any; rfl))
  all_goals try (exfalso; simp_all; done)
  (refine f_pure (rs := [.cell 12 26, .tmp 13, .tmp 14]) ?_; (repeat' (first | exact rzl_nil | apply rzl_cons | exact rz_pure rfl | exact rz_ex | exact z_os | apply rz_agg | apply rz_tup | apply rz_clo | apply rz_int | apply rz_bool | apply rz_str | refine z_eq ?_ | apply rz_sl)); all_goals skip)
end Go.Proofs.YtiljlcgmcmjcoaaGreatDoor

/- The uploads in the abstract layer, 13: slices.Delete, Finish. -/
set_option linter.unusedSimpArgs false
set_option maxHeartbeats 1000000
namespace Go.Proofs.YtiljlcgmcmjcoaaGreatDoor
open Go.Ab Go.RowKit
set_option maxRecDepth 10000
attribute [local irreducible] Awp Ops OpsX Wanted Red ExOk Go.Ab.Fin ACall Rz RzL RzRows Enters ResOk RenV RenVL ArgV ArgVL

theorem del_rows {α : Type} (rs : List α) (i n : Nat) (hi : i < n) (hn : n ≤ rs.length) (z : α) :
    (rs.take i ++ (rs.drop (i + 1)).take (n - (i + 1)) ++ rs.drop (i + (n - (i + 1)))).take (i + (n - (i + 1))) ++ List.replicate (n - (i + (n - (i + 1)))) z ++ (rs.take i ++ (rs.drop (i + 1)).take (n - (i + 1)) ++ rs.drop (i + (n - (i + 1)))).drop (i + (n - (i + 1)) + (n - (i + (n - (i + 1))))) =
      rs.take i ++ (rs.drop (i + 1)).take (n - (i + 1)) ++ [z] ++ rs.drop n := by
  have key : ∀ (P : List α) (m : Nat) (Q : List α), P.length = m → (P ++ Q).take m ++ List.replicate 1 z ++ (P ++ Q).drop (m + 1) = P ++ [z] ++ Q.drop 1 := by
    intro P m Q hP
    subst hP
    rw [List.take_left, List.drop_append, List.drop_eq_nil_of_le (by omega), List.nil_append, show P.length + 1 - P.length = 1 from by omega]
    rfl
  rw [show n - (i + (n - (i + 1))) = 1 from by omega, key _ _ _ (by simp; omega), List.drop_drop, show i + (n - (i + 1)) + 1 = n from by omega]

theorem del_pure {rs : List (List AV)} (hrs : ∀ row, row ∈ rs → AV.pure.pureL row = true) (i n : Nat) : ∀ row, row ∈ rs.take i ++ (rs.drop (i + 1)).take (n - (i + 1)) ++ [zeroSess.row] ++ rs.drop n → AV.pure.pureL row = true := by
  intro row hr
  rcases List.mem_append.1 hr with hr | hr
  · rcases List.mem_append.1 hr with hr | hr
    · rcases List.mem_append.1 hr with hr | hr
      · exact hrs row (List.mem_of_mem_take hr)
      · exact hrs row (List.mem_of_mem_drop (List.mem_of_mem_take hr))
    · obtain rfl := List.mem_singleton.1 hr; rfl
  · exact hrs row (List.mem_of_mem_drop hr)

theorem a_deleteS (rs : List (List AV)) (hrs : ∀ row, row ∈ rs → AV.pure.pureL row = true) (hrc : rs.all (fun row => row.length == 5 && row.all cellLike) = true) (n i : Nat) (hi : i < n) (hn : n ≤ rs.length) (hn6 : n ≤ 1000000) :
    ACall C1.P 157 [.os 0 0 n, .v (.int .i64 (i : Int)), .v (.int .i64 ((i + 1 : Nat) : Int))] [.own false 5 rs] (.os 0 0 (n - 1)) [.own false 5 (rs.take i ++ (rs.drop (i + 1)).take (n - (i + 1)) ++ [zeroSess.row] ++ rs.drop n)] := by
  refine acall_intro (C := C1) Tryz.func157 rfl _ Tryz.ntmps157 (Nat.le_of_ble_eq_true rfl) _ Tryz.results157 1 rfl rfl ?_
  repeat' (first | refine walk ?_ | (first | (refine o_slo3 ?_) | (refine o_slo ?_) | (refine o_clr ?_) | (apply opsx_upd; apply ex_append_in; (case hx => rfl); (case hT => rfl); (case he => rfl); (case hE => rfl); (case hn => rfl); (case hsrc => apply srcA_os; rfl; rfl; (show 0 + (i + 1) + (n - (i + 1)) ≤ rs.length; omega); rfl; exact hrc); (case hfit => simp; omega); (case hN => exact nle rfl))) | ((first | (apply ops_split_t; rfl; rfl; exact nle rfl) | (apply ops_split_f; rfl; rfl; exact nle rfl) | (apply awp_cond; rfl)); all_goals (intro hc; have hp := hc; first | (simp at hp; done) | ((try simp at hp); first | (exfalso; omega) | skip))) | (apply awp_cond_any; rfl))
  all_goals try (exfalso; omega)
  have hpu := del_pure hrs i n
  have hL : (List.take (n - (i + 1)) (List.drop (i + 1) rs)).length = n - (i + 1) := by simp; omega
  (apply fin_ownr (rs := [.tmp 6]) [] 1; (case hr => (repeat (first | exact resok_nil | (apply resok_tmp; rfl) | (apply resok_cell; rfl; rfl; rfl; rfl; rfl)))); (case hL => rfl); (case hh => (repeat (first | exact hsok_nil | refine q_id ?_ | refine q_idx ?_ ?_)); all_goals (simp only [Nat.zero_add, Nat.sub_zero, hL]; exact del_rows rs i n hi hn _)); (case hi => first | exact (rfl : _ = ([] : List (Nat × Nat))) | exact (rfl : _ = [((0 : Nat), (0 : Nat))]) | exact (rfl : _ = [((0 : Nat), (0 : Nat)), (1, 1)])); (case hz => first | rfl | (simp [pack, AV.ren, AV.ren.renL, lookN, getT, enumT]; done) | (simp [pack, AV.ren, AV.ren.renL, lookN, getT, enumT, *]; done) | (simp [pack, AV.ren, AV.ren.renL, lookN, getT, enumT]; omega)))

def tupFin (u : Upl) (t : Str) (e : Int) : AV := .tup [uplAV u, .v (str t), .v (.int .i64 e)]
def finU (u : Upl) (now : Int) (k : Nat) : Upl := { u with sess := (sweptL u.sess now).eraseIdx k }
def finAV (u : Upl) (now : Int) (k : Nat) (s : Sess) : AV := if s.text.length < s.size then tupFin noUp [] 4 else tupFin (finU u now k) s.text 0

theorem rz_fin {h : Nat → HB} {n k : Nat} {l : List Sess} {now : Int} (hk : k < (sweptL l now).length) (hn : h n = .own false 5 (((sweptRow l now).map Sess.row).take k ++ (((sweptRow l now).map Sess.row).drop (k + 1)).take ((sweptL l now).length - (k + 1)) ++ [zeroSess.row] ++ ((sweptRow l now).map Sess.row).drop (sweptL l now).length)) :
    Rz h (.os n 0 ((sweptL l now).length - 1)) (.sl false (((sweptL l now).eraseIdx k).map Sess.row)) := by
  have hlen := sweptRow_len l now
  refine rz_os hn (by simp; omega) ?_
  have e : ((((sweptRow l now).map Sess.row).take k ++ (((sweptRow l now).map Sess.row).drop (k + 1)).take ((sweptL l now).length - (k + 1)) ++ [zeroSess.row] ++ ((sweptRow l now).map Sess.row).drop (sweptL l now).length).drop 0).take ((sweptL l now).length - 1) = ((sweptL l now).eraseIdx k).map Sess.row := by
    rw [List.drop_zero, List.append_assoc, List.take_append_of_le_length (by simp; omega), List.take_of_length_le (by simp; omega), List.eraseIdx_eq_take_drop_succ, List.map_append]
    congr 1
    · rw [List.map_take, ← sweptRow_take l now, List.take_take, Nat.min_eq_left (by omega)]
    · rw [List.map_drop, ← sweptRow_take l now, List.drop_take]
  rw [e]
  exact rzrows_map fun _ => rfl

theorem a_finish_bad (u : Upl) (hu : UBig u) (who : Str) (hw : who.length ≤ 9223372036854775807) (number now : Int) (he : mineErr u who number now ≠ 0) :
    AFn C.P 128 [uplAV u, .v (str who), .v (.int .i64 number), .v (.int .i64 now)] (tupFin noUp [] (mineErr u who number now)) := by
  refine acall_intro Tryz.func128 rfl _ Tryz.ntmps128 (Nat.le_of_ble_eq_true rfl) _ Tryz.results128 0 rfl rfl ?_
  repeat' (first | refine walk ?_ | (first | (apply to_call Tryz.func126 rfl rfl; intro hIsFn; refine o_callp hIsFn (a_mine_bad u hu who hw number now he ..) ?_)) | ((first | (apply ops_split_t; rfl; rfl; exact nle rfl) | (apply ops_split_f; rfl; rfl; exact nle rfl) | (apply awp_cond; rfl)); all_goals (intro hc; have hp := hc; first | (simp at hp; done) | ((try simp at hp); first | (exfalso; omega) | skip))) | (apply awp_cond_any; rfl))
  all_goals try (exfalso; simp_all; done)
  (refine f_pure (rs := [.cell 8 26, .tmp 9, .tmp 10]) ?_; (repeat' (first | exact rzl_nil | apply rzl_cons | exact rz_pure rfl | exact rz_ex | exact z_os | apply rz_agg | apply rz_tup | apply rz_clo | apply rz_int | apply rz_bool | apply rz_str | refine z_eq ?_ | apply rz_sl)); all_goals skip)

theorem a_finish_ok (u : Upl) (hu : UBig u) (who : Str) (hw : who.length ≤ 9223372036854775807) (number now : Int) (hb0 : beginErr u now = 0) (hnm : isName who = true) (k : Nat) (hk : idxOf (isMine who number) (sweptL u.sess now) = k) (s : Sess) (hs : (sweptL u.sess now)[k]? = some s) :
    AFn C.P 128 [uplAV u, .v (str who), .v (.int .i64 number), .v (.int .i64 now)] (finAV u now k s) := by
  have hkl : k < (sweptL u.sess now).length := (List.getElem?_eq_some_iff.1 hs).1
  have hr := sweptRow_at hs
  have hsl : (sweptL u.sess now).length ≤ 20 := Nat.le_trans (sweptL_len _ _) (uok hb0).len
  have hdel := a_deleteS ((sweptRow u.sess now).map Sess.row) (pures_map fun _ => rfl) (all_map_cells fun _ => rfl) (sweptL u.sess now).length k hkl (by simpa using sweptRow_len u.sess now) (by omega)
  have hpu := del_pure (rs := (sweptRow u.sess now).map Sess.row) (pures_map fun _ => rfl) k (sweptL u.sess now).length
  refine acall_intro Tryz.func128 rfl _ Tryz.ntmps128 (Nat.le_of_ble_eq_true rfl) _ Tryz.results128 0 rfl rfl ?_
  repeat' (first | refine walk ?_ | (first | (apply to_call Tryz.func126 rfl rfl; intro hIsFn; refine o_callo ([]) hIsFn (a_mine_ok u hu who hw number now hb0 hnm k hk ..) ?_) | (refine o_ixo ?_) | (apply to_call Tryz.func157 rfl rfl; intro hIsFn; refine o_callh ([2]) 2 hIsFn (hdel ..) ?_)) | ((first | (apply ops_split_t; rfl; rfl; exact nle rfl) | (apply ops_split_f; rfl; rfl; exact nle rfl) | (apply awp_cond; rfl)); all_goals (intro hc; have hp := hc; first | (simp at hp; done) | ((try simp at hp); first | (exfalso; omega) | skip))) | (apply awp_cond_any; rfl))
  all_goals try (exfalso; simp_all; done)
  · rw [show finAV u now k s = tupFin noUp [] 4 from by unfold finAV; rw [if_pos hp]]
    (refine f_pure (rs := [.cell 8 26, .tmp 9, .tmp 10]) ?_; (repeat' (first | exact rzl_nil | apply rzl_cons | exact rz_pure rfl | exact rz_ex | exact z_os | apply rz_agg | apply rz_tup | apply rz_clo | apply rz_int | apply rz_bool | apply rz_str | refine z_eq ?_ | apply rz_sl)); all_goals skip)
  · skip
    rw [show finAV u now k s = tupFin (finU u now k) s.text 0 from by unfold finAV; rw [if_neg (by omega)]]
    (refine f_pure (rs := [.cell 8 26, .tmp 9, .tmp 10]) ?_; (repeat' (first | (apply rz_fin hkl; rfl) | exact rzl_nil | apply rzl_cons | exact rz_pure rfl | exact rz_ex | exact z_os | apply rz_agg | apply rz_tup | apply rz_clo | apply rz_int | apply rz_bool | apply rz_str | refine z_eq ?_ | apply rz_sl)); all_goals trace_state)
end Go.Proofs.YtiljlcgmcmjcoaaGreatDoor

/- The uploads in the abstract layer, 14: uploadBegun; the law UploadOpens. -/
set_option linter.unusedSimpArgs false
set_option maxHeartbeats 1000000
namespace Go.Proofs.YtiljlcgmcmjcoaaGreatDoor
open Go.Ab Go.RowKit
set_option maxRecDepth 10000
attribute [local irreducible] Awp Ops OpsX Wanted Red ExOk Go.Ab.Fin ACall Rz RzL RzRows Enters ResOk RenV RenVL ArgV ArgVL

end Go.Proofs.YtiljlcgmcmjcoaaGreatDoor

/- Uploads: plain laws of what the functions answer. -/
set_option linter.unusedSimpArgs false
namespace Go.Proofs.YtiljlcgmcmjcoaaGreatDoor

theorem rising_pair {l : List Sess} : rising (fun a b => decide (a.number < b.number)) l = true ↔ l.Pairwise (fun a b => a.number < b.number) := by
  induction l with
  | nil => simp [rising]
  | cons x l ih =>
    simp only [rising, Bool.and_eq_true, ih, List.pairwise_cons]
    constructor
    · rintro ⟨h1, h2⟩
      refine ⟨?_, h2⟩
      cases l with
      | nil => simp
      | cons y l =>
        simp at h1
        intro z hz
        rcases List.mem_cons.1 hz with rfl | hz
        · exact h1
        · have := (List.pairwise_cons.1 h2).1 z hz; omega
    · rintro ⟨h1, h2⟩
      refine ⟨?_, h2⟩
      cases l with
      | nil => rfl
      | cons y l => simpa using h1 y (List.mem_cons_self ..)

theorem openOf_cons (s : Sess) (l : List Sess) (who : Str) : openOf (s :: l) who = (if s.who = who then s.size else 0) + openOf l who := by simp [openOf]
theorem openOf_filter {l : List Sess} (p : Sess → Bool) (who : Str) (h : ∀ s, s ∈ l → 0 ≤ s.size) : openOf (l.filter p) who ≤ openOf l who := by
  induction l with
  | nil => simp
  | cons s l ih =>
    have ih := ih fun t ht => h t (List.mem_cons_of_mem _ ht)
    have h0 := h s (List.mem_cons_self ..)
    rw [openOf_cons]
    by_cases hp : p s = true
    · rw [List.filter_cons_of_pos hp, openOf_cons]; omega
    · rw [List.filter_cons_of_neg hp]; split <;> omega

theorem upErr_mk {u : Upl} (h1 : upHead u = true) (h2 : u.sess.length ≤ 20) (h3 : ∀ s, s ∈ u.sess → sessErr u.next s = 0) (h4 : u.sess.Pairwise (fun a b => a.number < b.number)) (h5 : ∀ s, s ∈ u.sess → openOf u.sess s.who ≤ u.room) : upErr u = 0 := by
  unfold upErr
  rw [if_pos h1, if_neg (by omega), if_pos (firstErr_zero.2 h3), if_pos (rising_pair.2 h4), if_pos (show roomy u = true from List.all_eq_true.2 fun s hs => by simpa using h5 s hs)]
theorem upErr_get {u : Upl} (h : upErr u = 0) : upHead u = true ∧ u.sess.length ≤ 20 ∧ (∀ s, s ∈ u.sess → sessErr u.next s = 0) ∧ u.sess.Pairwise (fun a b => a.number < b.number) ∧ ∀ s, s ∈ u.sess → openOf u.sess s.who ≤ u.room := by
  obtain ⟨a, b, c, d, e⟩ := upErr_zero h
  exact ⟨a, b, c, rising_pair.1 d, fun s hs => by have := List.all_eq_true.1 e s hs; simpa using this⟩

/-- Who lets go the sessions that are over has uploads that pass the check as before. -/
theorem upErr_swept {u : Upl} (t : Int) (h : upErr u = 0) : upErr (sweptU u t) = 0 := by
  obtain ⟨a, b, c, d, e⟩ := upErr_get h
  refine upErr_mk a (Nat.le_trans (sweptL_len _ _) b) (fun s hs => c s (sweptL_mem hs)) (d.filter _) (fun s hs => ?_)
  have h1 := openOf_filter (l := u.sess) (keeps t) s.who (fun s hs => (sessErr_size (c s hs)).1)
  have h2 := e s (sweptL_mem hs)
  show openOf (sweptL u.sess t) s.who ≤ u.room
  unfold sweptL
  omega

theorem sessErr_num {next : Int} {s : Sess} (h : sessErr next s = 0) : 1 ≤ s.number ∧ s.number ≤ next - 1 := by
  unfold sessErr at h
  split at h
  · rename_i h1
    simp [withinB] at h1; omega
  · cases h
theorem sessErr_up {next : Int} {s : Sess} (h : sessErr next s = 0) : sessErr (next + 1) s = 0 := by
  have hn := sessErr_num h
  have e : withinB s.number 1 (next + 1 - 1) = withinB s.number 1 (next - 1) := by
    rw [Bool.eq_iff_iff]; simp [withinB]; omega
  unfold sessErr at h ⊢
  rw [e]; exact h

theorem openErr_get {u : Upl} {who : Str} {size now : Int} (h : openErr u who size now = 0) : beginErr u now = 0 ∧ isName who = true ∧ 0 ≤ size ∧ size ≤ 300 ∧ u.next ≠ 1099511627776 ∧ (sweptL u.sess now).length ≠ 20 ∧ openOf (sweptL u.sess now) who + size ≤ u.room := by
  unfold openErr at h
  split at h
  · rename_i h1
    split at h
    · rename_i h2
      split at h
      · cases h
      · rename_i h3
        split at h
        · cases h
        · rename_i h4
          split at h
          · cases h
          · rename_i h5
            exact ⟨h1, h2, by omega, by omega, fun e => h3 (.inr (.inr e)), h4, by omega⟩
    · cases h
  · rename_i h1; exact absurd h h1

/-- What was opened passes the check. -/
theorem open_passes {u : Upl} {who : Str} {size now : Int} (h : openErr u who size now = 0) : upErr (openU u who size now) = 0 := by
  obtain ⟨h1, h2, h3, h4, h5, h6, h7⟩ := openErr_get h
  have ok := uok h1
  obtain ⟨n0, n1, l0, l1, r0, r1, x0, x1, _, _⟩ := ok
  obtain ⟨a, b, c, d, e⟩ := upErr_get (upErr_swept now (begin_zero h1).1)
  have hU : (sweptU u now).sess = sweptL u.sess now := rfl
  have hn : (sweptU u now).next = u.next := rfl
  have hr : (sweptU u now).room = u.room := rfl
  rw [hU] at b c d e
  rw [hn] at c
  rw [hr] at e
  refine upErr_mk ?_ ?_ ?_ ?_ ?_
  · have e1 : withinB u.lasts 1 1000000 = true := by simp [withinB]; omega
    have e2 : withinB u.room 0 100000 = true := by simp [withinB]; omega
    have e3 : withinB (u.next + 1) 1 1099511627776 = true := by simp [withinB]; omega
    show (withinB u.lasts 1 1000000 && withinB u.room 0 100000 && withinB (u.next + 1) 1 1099511627776) = true
    rw [e1, e2, e3]; rfl
  · simp [openU]; omega
  · intro s hs
    simp only [openU, List.mem_append, List.mem_singleton] at hs
    rcases hs with hs | rfl
    · exact sessErr_up (c s hs)
    · have w1 : withinB u.next 1 u.next = true := by simp [withinB]; omega
      have w2 : withinB size 0 300 = true := by simp [withinB]; omega
      have w3 : withinB (now + u.lasts) 0 2199023255552 = true := by simp [withinB]; omega
      simp [sessErr, openU, w1, w2, w3, h2]; omega
  · show (sweptL u.sess now ++ [_]).Pairwise _
    rw [List.pairwise_append]
    refine ⟨d, by simp, fun s hs t ht => ?_⟩
    obtain rfl := List.mem_singleton.1 ht
    have := sessErr_num (c s hs)
    show s.number < u.next
    omega
  · intro s hs
    simp only [openU, List.mem_append, List.mem_singleton] at hs
    show openOf (sweptL u.sess now ++ [_]) s.who ≤ u.room
    rw [openOf_snoc]
    rcases hs with hs | rfl
    · have := e s hs
      by_cases hw : who = s.who
      · rw [if_pos hw]; rw [← hw]; exact h7
      · rw [if_neg hw]; omega
    · simpa using h7

end Go.Proofs.YtiljlcgmcmjcoaaGreatDoor
