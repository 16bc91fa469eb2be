import Derived.Test.YtiljlcgmcmjcoaaGreatDoorMz25
import Derived.Test.YtiljlcgmcmjcoaaGreatDoorMz26
import Derived.Test.YtiljlcgmcmjcoaaGreatDoorMz22
import Derived.Test.YtiljlcgmcmjcoaaGreatDoorMz2
import Derived.Test.YtiljlcgmcmjcoaaGreatDoorMz10
/- Hubs in the abstract layer, 4: uploads and grants, whole; the server: right, may. -/
set_option linter.unusedSimpArgs false
set_option linter.unnecessarySimpa false
set_option linter.unusedVariables false
set_option maxHeartbeats 1000000
namespace Go.Proofs.YtiljlcgmcmjcoaaGreatDoor
open Go.Ab Go.RowKit
set_option maxRecDepth 10000
attribute [local irreducible] Awp Ops OpsX Wanted Red ExOk Go.Ab.Fin ACall Rz RzL RzRows Enters ResOk RenV RenVL ArgV ArgVL
theorem big63 {n : Nat} (h : n ≤ 140737488355328) : n ≤ 9223372036854775807 := Nat.le_trans h (by decide)
theorem h_open (u : Upl) (hu : UBig u) (who : Str) (hw : who.length ≤ 140737488355328) (size now : Int) : AFn C.P 86 [uplAV u, .v (str who), .v (.int .i64 size), .v (.int .i64 now)] (tupUp (opnR u who size now).1 (opnR u who size now).2.1 (opnR u who size now).2.2) := by
  have h := a_openUp u hu who (big63 hw) size now
  unfold openAV at h
  unfold opnR
  by_cases h0 : openErr u who size now = 0
  · rw [if_pos h0] at h ⊢; exact h
  · rw [if_neg h0] at h ⊢; exact h
theorem mine_text {u : Upl} {who : Str} {number now : Int} (h : mineErr u who number now = 0) : (mineS u who number now).text.length ≤ 300 := by
  obtain ⟨m1, _, _, m4, _⟩ := mine_get h
  have hs := (upErr_get (begin_get m1).1).2.2.1 _ (sweptL_mem (List.mem_of_getElem? m4))
  have h2 := sessErr_size hs
  unfold sessErr at hs
  split at hs
  · split at hs
    · split at hs
      · omega
      · omega
    · omega
  · omega
theorem h_append (u : Upl) (hu : UBig u) (who : Str) (hw : who.length ≤ 140737488355328) (number offset : Int) (text : Str) (ht : text.length ≤ 140737488355328) (now : Int) :
    AFn C.P 87 [uplAV u, .v (str who), .v (.int .i64 number), .v (.int .i64 offset), .v (str text), .v (.int .i64 now)] (tupUp (appR u who number offset text now).1 (appR u who number offset text now).2.1 (appR u who number offset text now).2.2) := by
  unfold appR
  by_cases h0 : mineErr u who number now = 0
  · rw [if_pos h0]
    obtain ⟨m1, m2, m3, m4, m5⟩ := mine_get h0
    have h := a_append_ok u hu who (big63 hw) number now m1 m2 _ m3 _ m4 (by have := mine_text h0; omega) offset text (str_lift ht)
    unfold appAV at h
    unfold appW
    by_cases h1 : appE (mineS u who number now) offset text = 0
    · rw [if_pos h1] at h ⊢; exact h
    · rw [if_neg h1] at h ⊢; exact h
  · rw [if_neg h0]
    exact a_append_bad u hu who (big63 hw) number now h0 offset text
theorem h_query (u : Upl) (hu : UBig u) (who : Str) (hw : who.length ≤ 140737488355328) (number now : Int) :
    AFn C.P 88 [uplAV u, .v (str who), .v (.int .i64 number), .v (.int .i64 now)] (.tup [.v (.int .i64 (qryR u who number now).1), .v (.int .i64 (qryR u who number now).2)]) := by
  unfold qryR
  by_cases h0 : mineErr u who number now = 0
  · rw [if_pos h0]
    obtain ⟨m1, m2, m3, m4, m5⟩ := mine_get h0
    exact a_query_ok u hu who (big63 hw) number now m1 m2 _ m3 _ m4 (by have := mine_text h0; omega)
  · rw [if_neg h0]
    exact a_query_bad u hu who (big63 hw) number now h0
theorem h_finish (u : Upl) (hu : UBig u) (who : Str) (hw : who.length ≤ 140737488355328) (number now : Int) :
    AFn C.P 128 [uplAV u, .v (str who), .v (.int .i64 number), .v (.int .i64 now)] (tupFin (finR u who number now).1 (finR u who number now).2.1 (finR u who number now).2.2) := by
  unfold finR
  by_cases h0 : mineErr u who number now = 0
  · rw [if_pos h0]
    obtain ⟨m1, m2, m3, m4, m5⟩ := mine_get h0
    have h := a_finish_ok u hu who (big63 hw) number now m1 m2 _ m3 _ m4
    unfold finAV at h
    by_cases h1 : (mineS u who number now).text.length < (mineS u who number now).size
    · rw [if_pos h1] at h ⊢; exact h
    · rw [if_neg h1] at h ⊢; exact h
  · rw [if_neg h0]
    exact a_finish_bad u hu who (big63 hw) number now h0
theorem h_give (l : List Gra) (hl : GBig l) (f b w : Str) (r : Int) (hf : f.length ≤ 140737488355328) (hb : b.length ≤ 140737488355328) (hw : w.length ≤ 140737488355328) :
    AFn C.P 61 [graAV l, .v (str f), .v (str b), .v (str w), .v (.int .i64 r)] (.tup [graAV (giveR l f b w r).1, .v (.int .i64 (giveR l f b w r).2)]) := by
  unfold giveR
  by_cases h0 : giveErr1 l f b w r = 0
  · rw [if_pos h0]; exact a_give l hl f b w r (str_lift hf) (str_lift hb) (str_lift hw) h0
  · rw [if_neg h0]; exact a_give_bad l hl f b w r (str_lift hf) (str_lift hb) (str_lift hw) h0
theorem h_make (l : List Gra) (hl : GBig l) (f w : Str) (hf : f.length ≤ 140737488355328) (hw : w.length ≤ 140737488355328) :
    AFn C.P 60 [graAV l, .v (str f), .v (str w)] (.tup [graAV (if makeErr l f w = 0 then setG l f w 3 else []), .v (.int .i64 (makeErr l f w))]) := by
  by_cases h0 : makeErr l f w = 0
  · rw [if_pos h0, h0]; exact a_make l hl f w (str_lift hf) (str_lift hw) h0
  · rw [if_neg h0]; exact a_make_bad l hl f w (str_lift hf) (str_lift hw) h0
section call0
variable {C : Cx} {N : Nat} {all : Array Oper} {es : List Eff} {os : List Oper} {K : List Eff → St → Prop} {ts : List (Nat × AV)} {hs : List (Nat × HB)} {nx : Nat} {gd : List Nat}
/-- A call that is lent several names, and makes none. -/
theorem o_call0 {f : FuncId} {args : List Operand} {tys : Array TypeId} {d : Nat} {ty : TypeId} {pos : String} {af : Array Edge} {gg : Option (Nat × Bool)} {ys : List AV} {H H' : List HB} {r : AV} (ns : List Nat) (Z : List (Nat × HB)) (r' : AV) (hf : IsFn C.P f) (hc : ACall C.P f ys H r H')
    (hz : ArgVL (numd 0 ns) ns (getH hs) (args.map (evA (getT ts))) ys) (hg : GiveL (numd 0 ns) (getH hs) ns H) (hb : BackL (dmun (numd 0 (Z.map (·.1)))) Z H')
    (k : Ops C N all (⟨gd ++ (opT (.func f) ++ args.flatMap opT), ns, some d, r', Z, []⟩ :: es) ⟨(d, r') :: ts, Z ++ hs, nx⟩ os K)
    (hr : r.ren (dmun (numd 0 (Z.map (·.1)))) = r' := by rfl) (hns : (Z.map (·.1)).take H.length = ns := by rfl) (hfr : (Z.map (·.1)).drop H.length = [] := by rfl) (hHZ : H.length ≤ Z.length := by exact Nat.le_of_ble_eq_true rfl) (hnd : (Z.map (·.1)).Nodup := by exact of_decide_eq_true rfl)
    (hN : d < N := by exact nle rfl) : CallX C N all gd es ⟨ts, hs, nx⟩ f args d tys ty pos af gg os K :=
  o_callm ns [] Z nx r' hf hc hz hg hb k hr hns hfr hHZ hnd rfl (fun n hn => by cases hn) (Nat.le_refl _) hN
end call0
/-- The server's memory. -/
noncomputable def C2h : Cx := { C with nh := 2 }
def srow (n : Nat) (h : Hub) (r : Rqt) : List AV := [.os n 0 h.fols.length, graAV h.gras, .sl false (h.ups.sess.map Sess.row), .v (.int .i64 h.ups.next), .v (.int .i64 h.ups.lasts), .v (.int .i64 h.ups.room), .v (.int .i64 h.now), .v (.int .i64 r.kind), .v (str r.who), .v (str r.folder), .v (str r.name), .v (str r.key), .v (str r.text), .v (.int .i64 r.number), .v (.int .i64 r.offset), .v (.int .i64 r.base), chgAV r.chs]
def HS (h : Hub) (r : Rqt) : List HB := [.own false 17 [srow 1 h r], .own false 4 (h.fols.map Fol.row)]
theorem q_srow {L : List (Nat × Nat)} {σ : St} {ex ex' : Bool} {h : Hub} {r : Rqt} {l : List (Nat × HB)} {n : Nat} (hl : HsOk L 2 σ l) (hn : Maps L 2 n n := by exact maps_low rfl) (hx : getH σ.hs 0 = .own ex 17 [srow n h r] := by rfl) (he : ex' = true → ex = true := by first | exact id | exact nofun) : HsOk L 2 σ ((0, .own ex' 17 [srow n h r]) :: l) :=
  hsok_own (maps_low rfl) hx he (renrows_cons (renl_cons (ren_os hn) (renl_cons (ren_pure rfl) (renl_cons (ren_pure rfl) (renl_cons (ren_pure rfl) (renl_cons (ren_pure rfl) (renl_cons (ren_pure rfl) (renl_cons (ren_pure rfl) (renl_cons (ren_pure rfl) (renl_cons (ren_pure rfl) (renl_cons (ren_pure rfl) (renl_cons (ren_pure rfl) (renl_cons (ren_pure rfl) (renl_cons (ren_pure rfl) (renl_cons (ren_pure rfl) (renl_cons (ren_pure rfl) (renl_cons (ren_pure rfl) (renl_cons (ren_pure rfl) renl_nil))))))))))))))))) renrows_nil) hl
theorem a_sright (h : Hub) (r : Rqt) (hr : rising graLt h.gras = true) (hl : h.gras.length ≤ 1000000) : ACall C2h.P 127 [.op 0 0 0] (HS h r) (.v (.int .i64 (rightG h.gras r.folder r.who))) (HS h r) := by
  have ho := a_of h.gras r.folder r.who hl hr
  refine acall_intro (C := C2h) Tryz.func127 rfl _ Tryz.ntmps127 (Nat.le_of_ble_eq_true rfl) _ Tryz.results127 2 rfl rfl ?_
  repeat' (first | refine walk ?_ | (first | (apply to_call Tryz.func63 rfl rfl; intro hIsFn; refine o_callf hIsFn (ho ..) ?_; skip)) | ((first | (apply ops_split_t; rfl; rfl; exact nle rfl) | (apply ops_split_f; rfl; rfl; exact nle rfl) | (apply awp_cond; rfl)); all_goals (intro hc; have hp := hc; first | (simp at hp; done) | ((try simp at hp); first | (exfalso; omega) | skip))) | (apply awp_cond_any; rfl))
  (apply fin_ownr (rs := [.tmp 2]) [] 2; (case hr => (repeat (first | exact resok_nil | (apply resok_tmp; rfl) | (apply resok_cell; rfl; rfl; rfl; rfl; rfl)))); (case hL => rfl); (case hh => (repeat' (first | exact hsok_nil | refine q_srow ?_ | refine q_dead ?_ | refine q_r ?_ | refine q_idx ?_ ?_)); all_goals trace_state); (case hi => exact rfl); (case hz => first | rfl | (simp [pack, AV.ren, AV.ren.renL, lookN, getT, enumT]; done) | (simp [pack, AV.ren, AV.ren.renL, lookN, getT, enumT, *]; done) | trace_state))
theorem a_smay (h : Hub) (r : Rqt) (hr : rising graLt h.gras = true) (hl : h.gras.length ≤ 1000000) (k : Int) : ACall C2h.P 89 [.op 0 0 0, .v (.int .i64 k)] (HS h r) (.v (.int .i64 (if rightG h.gras r.folder r.who < k then 9 else 0))) (HS h r) := by
  have ho := a_sright h r hr hl
  generalize rightG h.gras r.folder r.who = R at *
  by_cases hk : R < k
  · rw [if_pos hk]
    refine acall_intro (C := C2h) Tryz.func89 rfl _ Tryz.ntmps89 (Nat.le_of_ble_eq_true rfl) _ Tryz.results89 2 rfl rfl ?_
    repeat' (first | refine walk ?_ | (first | (apply to_call Tryz.func127 rfl rfl; intro hIsFn; refine o_call0 [0, 1] [(0, .own false 17 [srow 1 h r]), (1, .own false 4 (h.fols.map Fol.row))] (.v (.int .i64 R)) hIsFn (ho) (by ((repeat' (first | exact argvl_nil | apply argvl_cons | exact argv_pure rfl | exact argv_ex | (apply argv_ren; apply ren_op; exact .inr (of_decide_eq_true rfl)) | (apply argv_ren; apply ren_mp; exact .inr (of_decide_eq_true rfl)) | (apply argv_ren; apply ren_os; exact .inr (of_decide_eq_true rfl)) | apply argv_agg | apply argv_clo))) <;> fail) (by ((repeat' (first | exact give_nil | exact back_nil | refine give_cons _ ?_ ?_ | refine back_cons ?_ ?_ | exact renhb_dead | exact renhb_mp (sideM_pure _) | exact renhb_mp (jk_pure _) | exact renhb_mp (goesM_pure _) | exact renhb_map (fun _ => rfl) | refine renhb_row ?_ | exact renl_nil | apply renl_cons | exact ren_pure rfl | (apply ren_mp; exact .inr (of_decide_eq_true rfl)) | (apply ren_os; exact .inr (of_decide_eq_true rfl)) | (apply ren_op; exact .inr (of_decide_eq_true rfl)) | fail))) <;> fail) (by ((repeat' (first | exact give_nil | exact back_nil | refine give_cons _ ?_ ?_ | refine back_cons ?_ ?_ | exact renhb_dead | exact renhb_mp (sideM_pure _) | exact renhb_mp (jk_pure _) | exact renhb_mp (goesM_pure _) | exact renhb_map (fun _ => rfl) | refine renhb_row ?_ | exact renl_nil | apply renl_cons | exact ren_pure rfl | (apply ren_mp; exact .inr (of_decide_eq_true rfl)) | (apply ren_os; exact .inr (of_decide_eq_true rfl)) | (apply ren_op; exact .inr (of_decide_eq_true rfl)) | skip))) <;> fail) ?_)) | ((first | (apply ops_split_t; rfl; rfl; exact nle rfl) | (apply ops_split_f; rfl; rfl; exact nle rfl) | (apply awp_cond; rfl)); all_goals (intro hc; have hp := hc; first | (simp at hp; done) | ((try simp at hp); first | (exfalso; omega) | skip))) | (apply awp_cond_any; rfl))
    all_goals try (exfalso; omega)
    (apply fin_ownr (rs := [.tmp 4]) [] 2; (case hr => (repeat (first | exact resok_nil | (apply resok_tmp; rfl) | (apply resok_cell; rfl; rfl; rfl; rfl; rfl)))); (case hL => rfl); (case hh => (repeat' (first | exact hsok_nil | refine q_srow ?_ | refine q_dead ?_ | refine q_r ?_ | refine q_idx ?_ ?_)); all_goals trace_state); (case hi => exact rfl); (case hz => first | rfl | (simp [pack, AV.ren, AV.ren.renL, lookN, getT, enumT]; done) | (simp [pack, AV.ren, AV.ren.renL, lookN, getT, enumT, *]; done) | trace_state))
  · rw [if_neg hk]
    refine acall_intro (C := C2h) Tryz.func89 rfl _ Tryz.ntmps89 (Nat.le_of_ble_eq_true rfl) _ Tryz.results89 2 rfl rfl ?_
    repeat' (first | refine walk ?_ | (first | (apply to_call Tryz.func127 rfl rfl; intro hIsFn; refine o_call0 [0, 1] [(0, .own false 17 [srow 1 h r]), (1, .own false 4 (h.fols.map Fol.row))] (.v (.int .i64 R)) hIsFn (ho) (by ((repeat' (first | exact argvl_nil | apply argvl_cons | exact argv_pure rfl | exact argv_ex | (apply argv_ren; apply ren_op; exact .inr (of_decide_eq_true rfl)) | (apply argv_ren; apply ren_mp; exact .inr (of_decide_eq_true rfl)) | (apply argv_ren; apply ren_os; exact .inr (of_decide_eq_true rfl)) | apply argv_agg | apply argv_clo))) <;> fail) (by ((repeat' (first | exact give_nil | exact back_nil | refine give_cons _ ?_ ?_ | refine back_cons ?_ ?_ | exact renhb_dead | exact renhb_mp (sideM_pure _) | exact renhb_mp (jk_pure _) | exact renhb_mp (goesM_pure _) | exact renhb_map (fun _ => rfl) | refine renhb_row ?_ | exact renl_nil | apply renl_cons | exact ren_pure rfl | (apply ren_mp; exact .inr (of_decide_eq_true rfl)) | (apply ren_os; exact .inr (of_decide_eq_true rfl)) | (apply ren_op; exact .inr (of_decide_eq_true rfl)) | fail))) <;> fail) (by ((repeat' (first | exact give_nil | exact back_nil | refine give_cons _ ?_ ?_ | refine back_cons ?_ ?_ | exact renhb_dead | exact renhb_mp (sideM_pure _) | exact renhb_mp (jk_pure _) | exact renhb_mp (goesM_pure _) | exact renhb_map (fun _ => rfl) | refine renhb_row ?_ | exact renl_nil | apply renl_cons | exact ren_pure rfl | (apply ren_mp; exact .inr (of_decide_eq_true rfl)) | (apply ren_os; exact .inr (of_decide_eq_true rfl)) | (apply ren_op; exact .inr (of_decide_eq_true rfl)) | skip))) <;> fail) ?_)) | ((first | (apply ops_split_t; rfl; rfl; exact nle rfl) | (apply ops_split_f; rfl; rfl; exact nle rfl) | (apply awp_cond; rfl)); all_goals (intro hc; have hp := hc; first | (simp at hp; done) | ((try simp at hp); first | (exfalso; omega) | skip))) | (apply awp_cond_any; rfl))
    all_goals try (exfalso; omega)
    (apply fin_ownr (rs := [.tmp 4]) [] 2; (case hr => (repeat (first | exact resok_nil | (apply resok_tmp; rfl) | (apply resok_cell; rfl; rfl; rfl; rfl; rfl)))); (case hL => rfl); (case hh => (repeat' (first | exact hsok_nil | refine q_srow ?_ | refine q_dead ?_ | refine q_r ?_ | refine q_idx ?_ ?_)); all_goals trace_state); (case hi => exact rfl); (case hz => first | rfl | (simp [pack, AV.ren, AV.ren.renL, lookN, getT, enumT]; done) | (simp [pack, AV.ren, AV.ren.renL, lookN, getT, enumT, *]; done) | trace_state))
end Go.Proofs.YtiljlcgmcmjcoaaGreatDoor

/- Hubs in the abstract layer, 5: the server: page, give, uploads, commit, finish. -/
set_option linter.unusedSimpArgs false
set_option linter.unnecessarySimpa false
set_option linter.unusedVariables false
set_option maxHeartbeats 1000000
namespace Go.Proofs.YtiljlcgmcmjcoaaGreatDoor
open Go.Ab Go.RowKit
set_option maxRecDepth 10000
attribute [local irreducible] Awp Ops OpsX Wanted Red ExOk Go.Ab.Fin ACall Rz RzL RzRows Enters ResOk RenV RenVL ArgV ArgVL
def zAns (n : Int) : List AV := [.v (.int .i64 0), .v (.int .i64 n), .v (.bool false), .sl true [], .sl true [], .v (.int .i64 0), .v (.bool false)]
def resA (x : List AV) (e : Int) : AV := .tup [.agg x, .v (.int .i64 e)]
theorem s_page_no (h : Hub) (r : Rqt) (hr : HRight h) (hn : rightG h.gras r.folder r.who < 1) : ACall C2h.P 84 [.op 0 0 0] (HS h r) (resA (zAns 0) 9) (HS h r) := by
  obtain ⟨a1, a2, a3, a4⟩ := graErr_all hr.gra
  have hm := a_smay h r a3 (by omega) 1
  rw [if_pos hn] at hm
  refine acall_intro (C := C2h) Tryz.func84 rfl _ Tryz.ntmps84 (Nat.le_of_ble_eq_true rfl) _ Tryz.results84 2 rfl rfl ?_
  repeat' (first | refine walk ?_ | (first | (apply to_call Tryz.func89 rfl rfl; intro hIsFn; refine o_call0 [0, 1] [(0, .own false 17 [srow 1 h r]), (1, .own false 4 (h.fols.map Fol.row))] (.v (.int .i64 9)) hIsFn (hm) (by ((repeat' (first | exact argvl_nil | apply argvl_cons | exact argv_pure rfl | exact argv_ex | (apply argv_ren; apply ren_op; exact .inr (of_decide_eq_true rfl)) | (apply argv_ren; apply ren_mp; exact .inr (of_decide_eq_true rfl)) | (apply argv_ren; apply ren_os; exact .inr (of_decide_eq_true rfl)) | apply argv_agg | apply argv_clo))) <;> fail) (by ((repeat' (first | exact give_nil | exact back_nil | refine give_cons _ ?_ ?_ | refine back_cons ?_ ?_ | exact renhb_dead | exact renhb_mp (sideM_pure _) | exact renhb_mp (jk_pure _) | exact renhb_mp (goesM_pure _) | exact renhb_map (fun _ => rfl) | refine renhb_row ?_ | exact renl_nil | apply renl_cons | exact ren_pure rfl | (apply ren_mp; exact .inr (of_decide_eq_true rfl)) | (apply ren_os; exact .inr (of_decide_eq_true rfl)) | (apply ren_op; exact .inr (of_decide_eq_true rfl)) | fail))) <;> fail) (by ((repeat' (first | exact give_nil | exact back_nil | refine give_cons _ ?_ ?_ | refine back_cons ?_ ?_ | exact renhb_dead | exact renhb_mp (sideM_pure _) | exact renhb_mp (jk_pure _) | exact renhb_mp (goesM_pure _) | exact renhb_map (fun _ => rfl) | refine renhb_row ?_ | exact renl_nil | apply renl_cons | exact ren_pure rfl | (apply ren_mp; exact .inr (of_decide_eq_true rfl)) | (apply ren_os; exact .inr (of_decide_eq_true rfl)) | (apply ren_op; exact .inr (of_decide_eq_true rfl)) | skip))) <;> fail) ?_)) | ((first | (apply ops_split_t; rfl; rfl; exact nle rfl) | (apply ops_split_f; rfl; rfl; exact nle rfl) | (apply awp_cond; rfl)); all_goals (intro hc; have hp := hc; first | (simp at hp; done) | ((try simp at hp); first | (exfalso; omega) | skip))) | (apply awp_cond_any; rfl))
  all_goals try (exfalso; omega)
  (apply fin_ownr (rs := [.cell 2 46, .tmp 3]) [] 2; (case hr => (repeat (first | exact resok_nil | (apply resok_tmp; rfl) | (apply resok_cell; rfl; rfl; rfl; rfl; rfl)))); (case hL => rfl); (case hh => (repeat' (first | exact hsok_nil | refine q_srow ?_ | refine q_dead ?_ | refine q_r ?_ | refine q_idx ?_ ?_)); all_goals trace_state); (case hi => exact rfl); (case hz => first | rfl | (simp [pack, AV.ren, AV.ren.renL, lookN, getT, enumT]; done) | (simp [pack, AV.ren, AV.ren.renL, lookN, getT, enumT, *]; done) | trace_state))
theorem s_page (h : Hub) (hb : HBig h) (r : Rqt) (hr : HRight h) (hn : ¬ rightG h.gras r.folder r.who < 1) (k : Nat) (hk : k < h.fols.length) (hp : posF h.fols r.folder = k) (hh : hasF h.fols r.folder = true) :
    ACall C2h.P 84 [.op 0 0 0] (HS h r) (resA ([.v (.int .i64 0), .v (.int .i64 0)] ++ (readR h.fols[k].jou r.number 10).1.row) (readR h.fols[k].jou r.number 10).2) (HS h r) := by
  obtain ⟨a1, a2, a3, a4⟩ := graErr_all hr.gra
  have hm := a_smay h r a3 (by omega) 1
  rw [if_neg hn] at hm
  have hf := a_hfind h r.folder (by have := hr.len; omega) hr.rise
  rw [hp, hh] at hf
  have hrd := a_read h.fols[k].jou r.number 10 (hb.fols.each _ (List.getElem_mem _)).jou
  have hrow := getRow (f := Fol.row) hk
  have hml : (h.fols.map Fol.row).length = h.fols.length := List.length_map ..
  generalize readR h.fols[k].jou r.number 10 = P at *
  obtain ⟨p, e⟩ := P
  refine acall_intro (C := C2h) Tryz.func84 rfl _ Tryz.ntmps84 (Nat.le_of_ble_eq_true rfl) _ Tryz.results84 2 rfl rfl ?_
  repeat' (first | refine walk ?_ | (first | (apply to_call Tryz.func89 rfl rfl; intro hIsFn; refine o_call0 [0, 1] [(0, .own false 17 [srow 1 h r]), (1, .own false 4 (h.fols.map Fol.row))] (.v (.int .i64 0)) hIsFn (hm) (by ((repeat' (first | exact argvl_nil | apply argvl_cons | exact argv_pure rfl | exact argv_ex | (apply argv_ren; apply ren_op; exact .inr (of_decide_eq_true rfl)) | (apply argv_ren; apply ren_mp; exact .inr (of_decide_eq_true rfl)) | (apply argv_ren; apply ren_os; exact .inr (of_decide_eq_true rfl)) | apply argv_agg | apply argv_clo))) <;> fail) (by ((repeat' (first | exact give_nil | exact back_nil | refine give_cons _ ?_ ?_ | refine back_cons ?_ ?_ | exact renhb_dead | exact renhb_mp (sideM_pure _) | exact renhb_mp (jk_pure _) | exact renhb_mp (goesM_pure _) | exact renhb_map (fun _ => rfl) | refine renhb_row ?_ | exact renl_nil | apply renl_cons | exact ren_pure rfl | (apply ren_mp; exact .inr (of_decide_eq_true rfl)) | (apply ren_os; exact .inr (of_decide_eq_true rfl)) | (apply ren_op; exact .inr (of_decide_eq_true rfl)) | fail))) <;> fail) (by ((repeat' (first | exact give_nil | exact back_nil | refine give_cons _ ?_ ?_ | refine back_cons ?_ ?_ | exact renhb_dead | exact renhb_mp (sideM_pure _) | exact renhb_mp (jk_pure _) | exact renhb_mp (goesM_pure _) | exact renhb_map (fun _ => rfl) | refine renhb_row ?_ | exact renl_nil | apply renl_cons | exact ren_pure rfl | (apply ren_mp; exact .inr (of_decide_eq_true rfl)) | (apply ren_os; exact .inr (of_decide_eq_true rfl)) | (apply ren_op; exact .inr (of_decide_eq_true rfl)) | skip))) <;> fail) ?_) | (refine o_ixo ?_) | (apply opsx_val; apply ex_call [1]; exact isFn_of Tryz.func58 rfl rfl; exact hf; (case hz => exact rzl_cons (rz_hub rfl) (rzl_cons (rz_pure rfl) rzl_nil)); (case hfl => rfl); (case hN => exact nle rfl)) | (apply to_call Tryz.func124 rfl rfl; intro hIsFn; refine o_callp hIsFn (hrd ..) ?_)) | ((first | (apply ops_split_t; rfl; rfl; exact nle rfl) | (apply ops_split_f; rfl; rfl; exact nle rfl) | (apply awp_cond; rfl)); all_goals (intro hc; have hp := hc; first | (simp at hp; done) | ((try simp at hp); first | (exfalso; omega) | skip))) | (apply awp_cond_any; rfl))
  all_goals try (exfalso; omega)
  (apply fin_ownr (rs := [.cell 2 46, .tmp 3]) [] 2; (case hr => (repeat (first | exact resok_nil | (apply resok_tmp; rfl) | (apply resok_cell; rfl; rfl; rfl; rfl; rfl)))); (case hL => rfl); (case hh => (repeat' (first | exact hsok_nil | refine q_srow ?_ | refine q_dead ?_ | refine q_r ?_ | refine q_idx ?_ ?_)); all_goals trace_state); (case hi => exact rfl); (case hz => first | rfl | (simp [pack, AV.ren, AV.ren.renL, lookN, getT, enumT]; done) | (simp [pack, AV.ren, AV.ren.renL, lookN, getT, enumT, *]; done) | trace_state))
def giveM (h : Hub) (r : Rqt) : Hub := if (giveR h.gras r.folder r.who r.name r.number).2 = 0 then { h with gras := (giveR h.gras r.folder r.who r.name r.number).1 } else h
theorem s_give_no (h : Hub) (r : Rqt) (hr : HRight h) (hn : rightG h.gras r.folder r.who < 1) : ACall C2h.P 83 [.op 0 0 0] (HS h r) (resA (zAns 0) 9) (HS h r) := by
  obtain ⟨a1, a2, a3, a4⟩ := graErr_all hr.gra
  have hm := a_smay h r a3 (by omega) 1
  rw [if_pos hn] at hm
  refine acall_intro (C := C2h) Tryz.func83 rfl _ Tryz.ntmps83 (Nat.le_of_ble_eq_true rfl) _ Tryz.results83 2 rfl rfl ?_
  repeat' (first | refine walk ?_ | (first | (apply to_call Tryz.func89 rfl rfl; intro hIsFn; refine o_call0 [0, 1] [(0, .own false 17 [srow 1 h r]), (1, .own false 4 (h.fols.map Fol.row))] (.v (.int .i64 (9))) hIsFn (hm) (by ((repeat' (first | exact argvl_nil | apply argvl_cons | exact argv_pure rfl | exact argv_ex | (apply argv_ren; apply ren_op; exact .inr (of_decide_eq_true rfl)) | (apply argv_ren; apply ren_mp; exact .inr (of_decide_eq_true rfl)) | (apply argv_ren; apply ren_os; exact .inr (of_decide_eq_true rfl)) | apply argv_agg | apply argv_clo))) <;> fail) (by ((repeat' (first | exact give_nil | exact back_nil | refine give_cons _ ?_ ?_ | refine back_cons ?_ ?_ | exact renhb_dead | exact renhb_mp (sideM_pure _) | exact renhb_mp (jk_pure _) | exact renhb_mp (goesM_pure _) | exact renhb_map (fun _ => rfl) | refine renhb_row ?_ | exact renl_nil | apply renl_cons | exact ren_pure rfl | (apply ren_mp; exact .inr (of_decide_eq_true rfl)) | (apply ren_os; exact .inr (of_decide_eq_true rfl)) | (apply ren_op; exact .inr (of_decide_eq_true rfl)) | fail))) <;> fail) (by ((repeat' (first | exact give_nil | exact back_nil | refine give_cons _ ?_ ?_ | refine back_cons ?_ ?_ | exact renhb_dead | exact renhb_mp (sideM_pure _) | exact renhb_mp (jk_pure _) | exact renhb_mp (goesM_pure _) | exact renhb_map (fun _ => rfl) | refine renhb_row ?_ | exact renl_nil | apply renl_cons | exact ren_pure rfl | (apply ren_mp; exact .inr (of_decide_eq_true rfl)) | (apply ren_os; exact .inr (of_decide_eq_true rfl)) | (apply ren_op; exact .inr (of_decide_eq_true rfl)) | skip))) <;> fail) ?_)) | ((first | (apply ops_split_t; rfl; rfl; exact nle rfl) | (apply ops_split_f; rfl; rfl; exact nle rfl) | (apply awp_cond; rfl)); all_goals (intro hc; have hp := hc; first | (simp at hp; done) | ((try simp at hp); first | (exfalso; omega) | skip))) | (apply awp_cond_any; rfl))
  all_goals try (exfalso; omega)
  (apply fin_ownr (rs := [.cell 2 46, .tmp 3]) [] 2; (case hr => (repeat (first | exact resok_nil | (apply resok_tmp; rfl) | (apply resok_cell; rfl; rfl; rfl; rfl; rfl)))); (case hL => rfl); (case hh => (repeat' (first | exact hsok_nil | refine q_srow ?_ | refine q_dead ?_ | refine q_r ?_ | refine q_idx ?_ ?_)); all_goals trace_state); (case hi => exact rfl); (case hz => first | rfl | (simp [pack, AV.ren, AV.ren.renL, lookN, getT, enumT]; done) | (simp [pack, AV.ren, AV.ren.renL, lookN, getT, enumT, *]; done) | trace_state))
theorem s_give (h : Hub) (hb : HBig h) (r : Rqt) (rb : RBig r) (hr : HRight h) (hn : ¬ rightG h.gras r.folder r.who < 1) :
    ACall C2h.P 83 [.op 0 0 0] (HS h r) (resA (zAns 0) (giveR h.gras r.folder r.who r.name r.number).2) (HS (giveM h r) r) := by
  obtain ⟨a1, a2, a3, a4⟩ := graErr_all hr.gra
  have hm := a_smay h r a3 (by omega) 1
  rw [if_neg hn] at hm
  have hg := h_give h.gras hb.gras r.folder r.who r.name r.number rb.folder rb.who rb.name
  unfold giveM
  generalize giveR h.gras r.folder r.who r.name r.number = P at *
  obtain ⟨L, e⟩ := P
  dsimp only at *
  by_cases h0 : e = 0
  · rw [if_pos h0]
    subst h0
    refine acall_intro (C := C2h) Tryz.func83 rfl _ Tryz.ntmps83 (Nat.le_of_ble_eq_true rfl) _ Tryz.results83 2 rfl rfl ?_
    repeat' (first | refine walk ?_ | (first | (apply to_call Tryz.func89 rfl rfl; intro hIsFn; refine o_call0 [0, 1] [(0, .own false 17 [srow 1 h r]), (1, .own false 4 (h.fols.map Fol.row))] (.v (.int .i64 (0))) hIsFn (hm) (by ((repeat' (first | exact argvl_nil | apply argvl_cons | exact argv_pure rfl | exact argv_ex | (apply argv_ren; apply ren_op; exact .inr (of_decide_eq_true rfl)) | (apply argv_ren; apply ren_mp; exact .inr (of_decide_eq_true rfl)) | (apply argv_ren; apply ren_os; exact .inr (of_decide_eq_true rfl)) | apply argv_agg | apply argv_clo))) <;> fail) (by ((repeat' (first | exact give_nil | exact back_nil | refine give_cons _ ?_ ?_ | refine back_cons ?_ ?_ | exact renhb_dead | exact renhb_mp (sideM_pure _) | exact renhb_mp (jk_pure _) | exact renhb_mp (goesM_pure _) | exact renhb_map (fun _ => rfl) | refine renhb_row ?_ | exact renl_nil | apply renl_cons | exact ren_pure rfl | (apply ren_mp; exact .inr (of_decide_eq_true rfl)) | (apply ren_os; exact .inr (of_decide_eq_true rfl)) | (apply ren_op; exact .inr (of_decide_eq_true rfl)) | fail))) <;> fail) (by ((repeat' (first | exact give_nil | exact back_nil | refine give_cons _ ?_ ?_ | refine back_cons ?_ ?_ | exact renhb_dead | exact renhb_mp (sideM_pure _) | exact renhb_mp (jk_pure _) | exact renhb_mp (goesM_pure _) | exact renhb_map (fun _ => rfl) | refine renhb_row ?_ | exact renl_nil | apply renl_cons | exact ren_pure rfl | (apply ren_mp; exact .inr (of_decide_eq_true rfl)) | (apply ren_os; exact .inr (of_decide_eq_true rfl)) | (apply ren_op; exact .inr (of_decide_eq_true rfl)) | skip))) <;> fail) ?_) | (apply to_call Tryz.func61 rfl rfl; intro hIsFn; refine o_callp hIsFn (hg ..) ?_)) | ((first | (apply ops_split_t; rfl; rfl; exact nle rfl) | (apply ops_split_f; rfl; rfl; exact nle rfl) | (apply awp_cond; rfl)); all_goals (intro hc; have hp := hc; first | (simp at hp; done) | ((try simp at hp); first | (exfalso; omega) | skip))) | (apply awp_cond_any; rfl))
    all_goals try (exfalso; omega)
    (apply fin_ownr (rs := [.cell 2 46, .tmp 3]) [] 2; (case hr => (repeat (first | exact resok_nil | (apply resok_tmp; rfl) | (apply resok_cell; rfl; rfl; rfl; rfl; rfl)))); (case hL => rfl); (case hh => (repeat' (first | exact hsok_nil | refine q_srow ?_ | refine q_dead ?_ | refine q_r ?_ | refine q_idx ?_ ?_)); all_goals rfl); (case hi => exact rfl); (case hz => first | rfl | (simp [pack, AV.ren, AV.ren.renL, lookN, getT, enumT]; done) | (simp [pack, AV.ren, AV.ren.renL, lookN, getT, enumT, *]; done) | trace_state))
  · rw [if_neg h0]
    refine acall_intro (C := C2h) Tryz.func83 rfl _ Tryz.ntmps83 (Nat.le_of_ble_eq_true rfl) _ Tryz.results83 2 rfl rfl ?_
    repeat' (first | refine walk ?_ | (first | (apply to_call Tryz.func89 rfl rfl; intro hIsFn; refine o_call0 [0, 1] [(0, .own false 17 [srow 1 h r]), (1, .own false 4 (h.fols.map Fol.row))] (.v (.int .i64 (0))) hIsFn (hm) (by ((repeat' (first | exact argvl_nil | apply argvl_cons | exact argv_pure rfl | exact argv_ex | (apply argv_ren; apply ren_op; exact .inr (of_decide_eq_true rfl)) | (apply argv_ren; apply ren_mp; exact .inr (of_decide_eq_true rfl)) | (apply argv_ren; apply ren_os; exact .inr (of_decide_eq_true rfl)) | apply argv_agg | apply argv_clo))) <;> fail) (by ((repeat' (first | exact give_nil | exact back_nil | refine give_cons _ ?_ ?_ | refine back_cons ?_ ?_ | exact renhb_dead | exact renhb_mp (sideM_pure _) | exact renhb_mp (jk_pure _) | exact renhb_mp (goesM_pure _) | exact renhb_map (fun _ => rfl) | refine renhb_row ?_ | exact renl_nil | apply renl_cons | exact ren_pure rfl | (apply ren_mp; exact .inr (of_decide_eq_true rfl)) | (apply ren_os; exact .inr (of_decide_eq_true rfl)) | (apply ren_op; exact .inr (of_decide_eq_true rfl)) | fail))) <;> fail) (by ((repeat' (first | exact give_nil | exact back_nil | refine give_cons _ ?_ ?_ | refine back_cons ?_ ?_ | exact renhb_dead | exact renhb_mp (sideM_pure _) | exact renhb_mp (jk_pure _) | exact renhb_mp (goesM_pure _) | exact renhb_map (fun _ => rfl) | refine renhb_row ?_ | exact renl_nil | apply renl_cons | exact ren_pure rfl | (apply ren_mp; exact .inr (of_decide_eq_true rfl)) | (apply ren_os; exact .inr (of_decide_eq_true rfl)) | (apply ren_op; exact .inr (of_decide_eq_true rfl)) | skip))) <;> fail) ?_) | (apply to_call Tryz.func61 rfl rfl; intro hIsFn; refine o_callp hIsFn (hg ..) ?_)) | ((first | (apply ops_split_t; rfl; rfl; exact nle rfl) | (apply ops_split_f; rfl; rfl; exact nle rfl) | (apply awp_cond; rfl)); all_goals (intro hc; have hp := hc; first | (simp at hp; done) | ((try simp at hp); first | (exfalso; omega) | skip))) | (apply awp_cond_any; rfl))
    all_goals try (exfalso; omega)
    (apply fin_ownr (rs := [.cell 2 46, .tmp 3]) [] 2; (case hr => (repeat (first | exact resok_nil | (apply resok_tmp; rfl) | (apply resok_cell; rfl; rfl; rfl; rfl; rfl)))); (case hL => rfl); (case hh => (repeat' (first | exact hsok_nil | refine q_srow ?_ | refine q_dead ?_ | refine q_r ?_ | refine q_idx ?_ ?_)); all_goals rfl); (case hi => exact rfl); (case hz => first | rfl | (simp [pack, AV.ren, AV.ren.renL, lookN, getT, enumT]; done) | (simp [pack, AV.ren, AV.ren.renL, lookN, getT, enumT, *]; done) | trace_state))
theorem s_uploads (h : Hub) (r : Rqt) (u : Upl) (n e : Int) :
    ACall C2h.P 85 [.op 0 0 0, uplAV u, .v (.int .i64 n), .v (.int .i64 e)] (HS h r) (resA (zAns n) e) (HS (if e = 0 then { h with ups := u } else h) r) := by
  by_cases h0 : e = 0
  · rw [if_pos h0]
    subst h0
    refine acall_intro (C := C2h) Tryz.func85 rfl _ Tryz.ntmps85 (Nat.le_of_ble_eq_true rfl) _ Tryz.results85 2 rfl rfl ?_
    repeat' (first | refine walk ?_ | (first | fail) | ((first | (apply ops_split_t; rfl; rfl; exact nle rfl) | (apply ops_split_f; rfl; rfl; exact nle rfl) | (apply awp_cond; rfl)); all_goals (intro hc; have hp := hc; first | (simp at hp; done) | ((try simp at hp); first | (exfalso; omega) | skip))) | (apply awp_cond_any; rfl))
    all_goals try (exfalso; omega)
    (apply fin_ownr (rs := [.cell 8 46, .tmp 9]) [] 2; (case hr => (repeat (first | exact resok_nil | (apply resok_tmp; rfl) | (apply resok_cell; rfl; rfl; rfl; rfl; rfl)))); (case hL => rfl); (case hh => (repeat' (first | exact hsok_nil | refine q_srow ?_ | refine q_dead ?_ | refine q_r ?_ | refine q_idx ?_ ?_)); all_goals rfl); (case hi => exact rfl); (case hz => first | rfl | (simp [pack, AV.ren, AV.ren.renL, lookN, getT, enumT]; done) | (simp [pack, AV.ren, AV.ren.renL, lookN, getT, enumT, *]; done) | trace_state))
  · rw [if_neg h0]
    refine acall_intro (C := C2h) Tryz.func85 rfl _ Tryz.ntmps85 (Nat.le_of_ble_eq_true rfl) _ Tryz.results85 2 rfl rfl ?_
    repeat' (first | refine walk ?_ | (first | fail) | ((first | (apply ops_split_t; rfl; rfl; exact nle rfl) | (apply ops_split_f; rfl; rfl; exact nle rfl) | (apply awp_cond; rfl)); all_goals (intro hc; have hp := hc; first | (simp at hp; done) | ((try simp at hp); first | (exfalso; omega) | skip))) | (apply awp_cond_any; rfl))
    all_goals try (exfalso; omega)
    (apply fin_ownr (rs := [.cell 8 46, .tmp 9]) [] 2; (case hr => (repeat (first | exact resok_nil | (apply resok_tmp; rfl) | (apply resok_cell; rfl; rfl; rfl; rfl; rfl)))); (case hL => rfl); (case hh => (repeat' (first | exact hsok_nil | refine q_srow ?_ | refine q_dead ?_ | refine q_r ?_ | refine q_idx ?_ ?_)); all_goals rfl); (case hi => exact rfl); (case hz => first | rfl | (simp [pack, AV.ren, AV.ren.renL, lookN, getT, enumT]; done) | (simp [pack, AV.ren, AV.ren.renL, lookN, getT, enumT, *]; done) | trace_state))
def comM (h : Hub) (k : Nat) (j : Jou) (r : Rqt) (l : List Chg) : Hub := if (commitR j r.key l).2.2 = 0 then { h with fols := h.fols.set k ⟨r.folder, (commitR j r.key l).1⟩ } else h
theorem s_commit (h : Hub) (hb : HBig h) (r : Rqt) (rb : RBig r) (hr : HRight h) (l : List Chg) (lb : CBig l) (k : Nat) (hk : k < h.fols.length) (hp : posF h.fols r.folder = k) (hh : hasF h.fols r.folder = true) (hkn : h.fols[k].name = r.folder) :
    ACall C2h.P 91 [.op 0 0 0, chgAV l] (HS h r) (resA (zAns (commitR h.fols[k].jou r.key l).2.1) (commitR h.fols[k].jou r.key l).2.2) (HS (comM h k h.fols[k].jou r l) r) := by
  have hf := a_hfind h r.folder (by have := hr.len; omega) hr.rise
  rw [hp, hh] at hf
  have hrd := a_commit h.fols[k].jou r.key l (hb.fols.each _ (List.getElem_mem _)).jou lb
  have hrow : (h.fols.map Fol.row)[k]? = some (Fol.row ⟨r.folder, h.fols[k].jou⟩) := by rw [getRow (f := Fol.row) hk, ← hkn]
  have hml : (h.fols.map Fol.row).length = h.fols.length := List.length_map ..
  unfold comM
  generalize commitR h.fols[k].jou r.key l = P at *
  obtain ⟨j', n, e⟩ := P
  dsimp only at *
  have hset : (h.fols.map Fol.row).set k (Fol.row ⟨r.folder, j'⟩) = (h.fols.set k ⟨r.folder, j'⟩).map Fol.row := List.map_set.symm
  by_cases h0 : e = 0
  · rw [if_pos h0]
    subst h0
    have hlen : (h.fols.set k ⟨r.folder, j'⟩).length = h.fols.length := List.length_set ..
    show ACall C2h.P _ _ _ _ [.own false 17 [srow 1 { h with fols := h.fols.set k ⟨r.folder, j'⟩ } r], .own false 4 ((h.fols.set k ⟨r.folder, j'⟩).map Fol.row)]
    rw [show srow 1 { h with fols := h.fols.set k ⟨r.folder, j'⟩ } r = srow 1 h r from by unfold srow; dsimp only; rw [hlen], ← hset]
    have hpu : ∀ row, row ∈ (h.fols.map Fol.row).set k (Fol.row ⟨r.folder, j'⟩) → AV.pure.pureL row = true := by rw [hset]; exact pures_map fun _ => rfl
    clear hset
    refine acall_intro (C := C2h) Tryz.func91 rfl _ Tryz.ntmps91 (Nat.le_of_ble_eq_true rfl) _ Tryz.results91 2 rfl rfl ?_
    repeat' (first | refine walk ?_ | (first | (refine o_ixo ?_) | (apply opsx_val; apply ex_call [1]; exact isFn_of Tryz.func58 rfl rfl; exact hf; (case hz => exact rzl_cons (rz_hub rfl) (rzl_cons (rz_pure rfl) rzl_nil)); (case hfl => rfl); (case hN => exact nle rfl)) | (apply to_call Tryz.func129 rfl rfl; intro hIsFn; refine o_callp hIsFn (hrd ..) ?_)) | ((first | (apply ops_split_t; rfl; rfl; exact nle rfl) | (apply ops_split_f; rfl; rfl; exact nle rfl) | (apply awp_cond; rfl)); all_goals (intro hc; have hp := hc; first | (simp at hp; done) | ((try simp at hp); first | (exfalso; omega) | skip))) | (apply awp_cond_any; rfl))
    all_goals try (exfalso; omega)
    (apply fin_ownr (rs := [.cell 4 46, .tmp 5]) [] 2; (case hr => (repeat (first | exact resok_nil | (apply resok_tmp; rfl) | (apply resok_cell; rfl; rfl; rfl; rfl; rfl)))); (case hL => rfl); (case hh => (repeat' (first | exact hsok_nil | refine q_srow ?_ | refine q_dead ?_ | refine q_r ?_ | refine q_idx ?_ ?_)); all_goals rfl); (case hi => exact rfl); (case hz => first | rfl | (simp [pack, AV.ren, AV.ren.renL, lookN, getT, enumT]; done) | (simp [pack, AV.ren, AV.ren.renL, lookN, getT, enumT, *]; done) | trace_state))
  · rw [if_neg h0]
    refine acall_intro (C := C2h) Tryz.func91 rfl _ Tryz.ntmps91 (Nat.le_of_ble_eq_true rfl) _ Tryz.results91 2 rfl rfl ?_
    repeat' (first | refine walk ?_ | (first | (refine o_ixo ?_) | (apply opsx_val; apply ex_call [1]; exact isFn_of Tryz.func58 rfl rfl; exact hf; (case hz => exact rzl_cons (rz_hub rfl) (rzl_cons (rz_pure rfl) rzl_nil)); (case hfl => rfl); (case hN => exact nle rfl)) | (apply to_call Tryz.func129 rfl rfl; intro hIsFn; refine o_callp hIsFn (hrd ..) ?_)) | ((first | (apply ops_split_t; rfl; rfl; exact nle rfl) | (apply ops_split_f; rfl; rfl; exact nle rfl) | (apply awp_cond; rfl)); all_goals (intro hc; have hp := hc; first | (simp at hp; done) | ((try simp at hp); first | (exfalso; omega) | skip))) | (apply awp_cond_any; rfl))
    all_goals try (exfalso; omega)
    (apply fin_ownr (rs := [.cell 4 46, .tmp 5]) [] 2; (case hr => (repeat (first | exact resok_nil | (apply resok_tmp; rfl) | (apply resok_cell; rfl; rfl; rfl; rfl; rfl)))); (case hL => rfl); (case hh => (repeat' (first | exact hsok_nil | refine q_srow ?_ | refine q_dead ?_ | refine q_r ?_ | refine q_idx ?_ ?_)); all_goals rfl); (case hi => exact rfl); (case hz => first | rfl | (simp [pack, AV.ren, AV.ren.renL, lookN, getT, enumT]; done) | (simp [pack, AV.ren, AV.ren.renL, lookN, getT, enumT, *]; done) | trace_state))
def finM (h : Hub) (k : Nat) (j : Jou) (r : Rqt) (u : Upl) (x : Str) : Hub := if (commitR j r.key [⟨2, r.name, [], x, r.base⟩]).2.2 = 0 then { comM h k j r [⟨2, r.name, [], x, r.base⟩] with ups := u } else h
theorem s_finish_no (h : Hub) (hb : HBig h) (r : Rqt) (rb : RBig r) (he : ¬ (finR h.ups r.who r.number h.now).2.2 = 0) : ACall C2h.P 90 [.op 0 0 0] (HS h r) (resA (zAns 0) (finR h.ups r.who r.number h.now).2.2) (HS h r) := by
  have hf := h_finish h.ups hb.ups r.who rb.who r.number h.now
  generalize finR h.ups r.who r.number h.now = P at *
  obtain ⟨u, x, e⟩ := P
  dsimp only at *
  refine acall_intro (C := C2h) Tryz.func90 rfl _ Tryz.ntmps90 (Nat.le_of_ble_eq_true rfl) _ Tryz.results90 2 rfl rfl ?_
  repeat' (first | refine walk ?_ | (first | (apply to_call Tryz.func128 rfl rfl; intro hIsFn; refine o_callp hIsFn (hf ..) ?_)) | ((first | (apply ops_split_t; rfl; rfl; exact nle rfl) | (apply ops_split_f; rfl; rfl; exact nle rfl) | (apply awp_cond; rfl)); all_goals (intro hc; have hp := hc; first | (simp at hp; done) | ((try simp at hp); first | (exfalso; omega) | skip))) | (apply awp_cond_any; rfl))
  all_goals try (exfalso; omega)
  (apply fin_ownr (rs := [.cell 2 46, .tmp 3]) [] 2; (case hr => (repeat (first | exact resok_nil | (apply resok_tmp; rfl) | (apply resok_cell; rfl; rfl; rfl; rfl; rfl)))); (case hL => rfl); (case hh => (repeat' (first | exact hsok_nil | refine q_srow ?_ | refine q_dead ?_ | refine q_r ?_ | refine q_idx ?_ ?_)); all_goals rfl); (case hi => exact rfl); (case hz => first | rfl | (simp [pack, AV.ren, AV.ren.renL, lookN, getT, enumT]; done) | (simp [pack, AV.ren, AV.ren.renL, lookN, getT, enumT, *]; done) | trace_state))
theorem s_finish (h : Hub) (hb : HBig h) (r : Rqt) (rb : RBig r) (hr : HRight h) (he : (finR h.ups r.who r.number h.now).2.2 = 0) (hx : (finR h.ups r.who r.number h.now).2.1.length ≤ 1000) (k : Nat) (hk : k < h.fols.length) (hp : posF h.fols r.folder = k) (hh : hasF h.fols r.folder = true) (hkn : h.fols[k].name = r.folder) :
    ACall C2h.P 90 [.op 0 0 0] (HS h r) (resA (zAns (commitR h.fols[k].jou r.key [⟨2, r.name, [], (finR h.ups r.who r.number h.now).2.1, r.base⟩]).2.1) (commitR h.fols[k].jou r.key [⟨2, r.name, [], (finR h.ups r.who r.number h.now).2.1, r.base⟩]).2.2)
      (HS (finM h k h.fols[k].jou r (finR h.ups r.who r.number h.now).1 (finR h.ups r.who r.number h.now).2.1) r) := by
  have hf := h_finish h.ups hb.ups r.who rb.who r.number h.now
  generalize finR h.ups r.who r.number h.now = P at *
  obtain ⟨u, x, e⟩ := P
  dsimp only at *
  subst he
  have hc := s_commit h hb r rb hr [⟨2, r.name, [], x, r.base⟩] ⟨fun c hc => by rw [List.mem_singleton.1 hc]; exact ⟨rb.name, by simp, by show x.length ≤ _; omega⟩, by simp⟩ k hk hp hh hkn
  unfold finM
  unfold comM at hc ⊢
  generalize commitR h.fols[k].jou r.key [⟨2, r.name, [], x, r.base⟩] = Q at *
  obtain ⟨j', n, e⟩ := Q
  dsimp only at *
  by_cases h0 : e = 0
  · subst h0
    rw [if_pos rfl] at hc ⊢
    rw [if_pos rfl]
    have hlen : (h.fols.set k ⟨r.folder, j'⟩).length = h.fols.length := List.length_set ..
    have hs1 : srow 1 { h with fols := h.fols.set k ⟨r.folder, j'⟩ } r = srow 1 h r := by unfold srow; dsimp only; rw [hlen]
    have hs2 : srow 1 { h with fols := h.fols.set k ⟨r.folder, j'⟩, ups := u } r = srow 1 { h with ups := u } r := by unfold srow; dsimp only; rw [hlen]
    have hc : ACall C2h.P 91 [.op 0 0 0, chgAV [⟨2, r.name, [], x, r.base⟩]] (HS h r) (resA (zAns n) 0) [.own false 17 [srow 1 h r], .own false 4 ((h.fols.set k ⟨r.folder, j'⟩).map Fol.row)] := by rw [← hs1]; exact hc
    show ACall C2h.P _ _ _ _ [.own false 17 [srow 1 { h with fols := h.fols.set k ⟨r.folder, j'⟩, ups := u } r], .own false 4 ((h.fols.set k ⟨r.folder, j'⟩).map Fol.row)]
    rw [hs2]
    generalize h.fols.set k ⟨r.folder, j'⟩ = F' at *
    refine acall_intro (C := C2h) Tryz.func90 rfl _ Tryz.ntmps90 (Nat.le_of_ble_eq_true rfl) _ Tryz.results90 2 rfl rfl ?_
    repeat' (first | refine walk ?_ | (first | (apply to_call Tryz.func128 rfl rfl; intro hIsFn; refine o_callp hIsFn (hf ..) ?_) | (refine o_fzl ?_) | (apply to_call Tryz.func91 rfl rfl; intro hIsFn; refine o_call0 [0, 1] [(0, .own false 17 [srow 1 h r]), (1, .own false 4 (F'.map Fol.row))] (resA (zAns n) 0) hIsFn (hc) (by ((repeat' (first | exact argvl_nil | apply argvl_cons | exact argv_pure rfl | exact argv_ex | (apply argv_ren; apply ren_op; exact .inr (of_decide_eq_true rfl)) | (apply argv_ren; apply ren_mp; exact .inr (of_decide_eq_true rfl)) | (apply argv_ren; apply ren_os; exact .inr (of_decide_eq_true rfl)) | apply argv_agg | apply argv_clo))) <;> fail) (by ((repeat' (first | exact give_nil | exact back_nil | refine give_cons _ ?_ ?_ | refine back_cons ?_ ?_ | exact renhb_dead | exact renhb_mp (sideM_pure _) | exact renhb_mp (jk_pure _) | exact renhb_mp (goesM_pure _) | exact renhb_map (fun _ => rfl) | refine renhb_row ?_ | exact renl_nil | apply renl_cons | exact ren_pure rfl | (apply ren_mp; exact .inr (of_decide_eq_true rfl)) | (apply ren_os; exact .inr (of_decide_eq_true rfl)) | (apply ren_op; exact .inr (of_decide_eq_true rfl)) | fail))) <;> fail) (by ((repeat' (first | exact give_nil | exact back_nil | refine give_cons _ ?_ ?_ | refine back_cons ?_ ?_ | exact renhb_dead | exact renhb_mp (sideM_pure _) | exact renhb_mp (jk_pure _) | exact renhb_mp (goesM_pure _) | exact renhb_map (fun _ => rfl) | refine renhb_row ?_ | exact renl_nil | apply renl_cons | exact ren_pure rfl | (apply ren_mp; exact .inr (of_decide_eq_true rfl)) | (apply ren_os; exact .inr (of_decide_eq_true rfl)) | (apply ren_op; exact .inr (of_decide_eq_true rfl)) | skip))) <;> fail) ?_)) | ((first | (apply ops_split_t; rfl; rfl; exact nle rfl) | (apply ops_split_f; rfl; rfl; exact nle rfl) | (apply awp_cond; rfl)); all_goals (intro hc; have hp := hc; first | (simp at hp; done) | ((try simp at hp); first | (exfalso; omega) | skip))) | (apply awp_cond_any; rfl))
    all_goals try (exfalso; omega)
    (apply fin_ownr (rs := [.cell 2 46, .tmp 3]) [] 2; (case hr => (repeat (first | exact resok_nil | (apply resok_tmp; rfl) | (apply resok_cell; rfl; rfl; rfl; rfl; rfl)))); (case hL => rfl); (case hh => (repeat' (first | exact hsok_nil | refine q_srow ?_ | refine q_dead ?_ | refine q_r ?_ | refine q_idx ?_ ?_)); all_goals rfl); (case hi => exact rfl); (case hz => first | rfl | (simp [pack, AV.ren, AV.ren.renL, lookN, getT, enumT]; done) | (simp [pack, AV.ren, AV.ren.renL, lookN, getT, enumT, *]; done) | trace_state))
  · rw [if_neg h0] at hc ⊢
    refine acall_intro (C := C2h) Tryz.func90 rfl _ Tryz.ntmps90 (Nat.le_of_ble_eq_true rfl) _ Tryz.results90 2 rfl rfl ?_
    repeat' (first | refine walk ?_ | (first | (apply to_call Tryz.func128 rfl rfl; intro hIsFn; refine o_callp hIsFn (hf ..) ?_) | (refine o_fzl ?_) | (apply to_call Tryz.func91 rfl rfl; intro hIsFn; refine o_call0 [0, 1] [(0, .own false 17 [srow 1 h r]), (1, .own false 4 (h.fols.map Fol.row))] (resA (zAns n) e) hIsFn (hc) (by ((repeat' (first | exact argvl_nil | apply argvl_cons | exact argv_pure rfl | exact argv_ex | (apply argv_ren; apply ren_op; exact .inr (of_decide_eq_true rfl)) | (apply argv_ren; apply ren_mp; exact .inr (of_decide_eq_true rfl)) | (apply argv_ren; apply ren_os; exact .inr (of_decide_eq_true rfl)) | apply argv_agg | apply argv_clo))) <;> fail) (by ((repeat' (first | exact give_nil | exact back_nil | refine give_cons _ ?_ ?_ | refine back_cons ?_ ?_ | exact renhb_dead | exact renhb_mp (sideM_pure _) | exact renhb_mp (jk_pure _) | exact renhb_mp (goesM_pure _) | exact renhb_map (fun _ => rfl) | refine renhb_row ?_ | exact renl_nil | apply renl_cons | exact ren_pure rfl | (apply ren_mp; exact .inr (of_decide_eq_true rfl)) | (apply ren_os; exact .inr (of_decide_eq_true rfl)) | (apply ren_op; exact .inr (of_decide_eq_true rfl)) | fail))) <;> fail) (by ((repeat' (first | exact give_nil | exact back_nil | refine give_cons _ ?_ ?_ | refine back_cons ?_ ?_ | exact renhb_dead | exact renhb_mp (sideM_pure _) | exact renhb_mp (jk_pure _) | exact renhb_mp (goesM_pure _) | exact renhb_map (fun _ => rfl) | refine renhb_row ?_ | exact renl_nil | apply renl_cons | exact ren_pure rfl | (apply ren_mp; exact .inr (of_decide_eq_true rfl)) | (apply ren_os; exact .inr (of_decide_eq_true rfl)) | (apply ren_op; exact .inr (of_decide_eq_true rfl)) | skip))) <;> fail) ?_)) | ((first | (apply ops_split_t; rfl; rfl; exact nle rfl) | (apply ops_split_f; rfl; rfl; exact nle rfl) | (apply awp_cond; rfl)); all_goals (intro hc; have hp := hc; first | (simp at hp; done) | ((try simp at hp); first | (exfalso; omega) | skip))) | (apply awp_cond_any; rfl))
    all_goals try (exfalso; omega)
    (apply fin_ownr (rs := [.cell 2 46, .tmp 3]) [] 2; (case hr => (repeat (first | exact resok_nil | (apply resok_tmp; rfl) | (apply resok_cell; rfl; rfl; rfl; rfl; rfl)))); (case hL => rfl); (case hh => (repeat' (first | exact hsok_nil | refine q_srow ?_ | refine q_dead ?_ | refine q_r ?_ | refine q_idx ?_ ?_)); all_goals rfl); (case hi => exact rfl); (case hz => first | rfl | (simp [pack, AV.ren, AV.ren.renL, lookN, getT, enumT]; done) | (simp [pack, AV.ren, AV.ren.renL, lookN, getT, enumT, *]; done) | trace_state))
end Go.Proofs.YtiljlcgmcmjcoaaGreatDoor

/- Hubs in the abstract layer, 6: the server: create. -/
set_option linter.unusedSimpArgs false
set_option linter.unnecessarySimpa false
set_option linter.unusedVariables false
set_option maxHeartbeats 1000000
namespace Go.Proofs.YtiljlcgmcmjcoaaGreatDoor
open Go.Ab Go.RowKit
set_option maxRecDepth 10000
theorem rzrows_app {h : Nat → HB} {a a' b b' : List (List AV)} (h1 : RzRows h a a') (h2 : RzRows h b b') : RzRows h (a ++ b) (a' ++ b') := by
  obtain ⟨l1, p1⟩ := h1
  obtain ⟨l2, p2⟩ := h2
  refine ⟨by simp [l1, l2], fun i row row' hr hr' => ?_⟩
  by_cases hi : i < a.length
  · rw [List.getElem?_append_left hi] at hr
    rw [List.getElem?_append_left (by omega)] at hr'
    exact p1 i row row' hr hr'
  · rw [List.getElem?_append_right (by omega)] at hr
    rw [List.getElem?_append_right (by omega)] at hr'
    rw [l1] at hr
    exact p2 _ row row' hr hr'
attribute [local irreducible] Awp Ops OpsX Wanted Red ExOk Go.Ab.Fin ACall Rz RzL RzRows Enters ResOk RenV RenVL ArgV ArgVL
/-- A new folder's row. -/
def xrow (f : Str) : List AV := [.v (str f), .sl true [], .v (.int .i64 1), .sl true []]
theorem f_insertEnd (l : List Fol) (g : Str) (hl : l.length ≤ 1000000) :
    ACall C1.P 123 [.os 0 0 l.length, .v (.int .i64 l.length), .sl false [xrow g]] [.own false 4 (l.map Fol.row)] (.os 1 0 (l.length + 1)) [.dead, .own false 4 (l.map Fol.row ++ [xrow g])] := by
  have hpu : ∀ row, row ∈ l.map Fol.row ++ [xrow g] → AV.pure.pureL row = true := fun row hr => by
    rcases List.mem_append.1 hr with hr | hr
    · obtain ⟨x, _, rfl⟩ := List.mem_map.1 hr; rfl
    · rw [List.mem_singleton.1 hr]; rfl
  refine acall_intro (C := C1) Tryz.func123 rfl _ Tryz.ntmps123 (Nat.le_of_ble_eq_true rfl) _ Tryz.results123 1 rfl rfl ?_
  repeat' (first | refine walk ?_ | (first | (refine o_slo ?_) | (refine o_appo ?_)) | ((first | (apply ops_split_t; rfl; rfl; exact nle rfl) | (apply ops_split_f; rfl; rfl; exact nle rfl) | (apply awp_cond; rfl)); all_goals (intro hc; have hp := hc; first | (simp at hp; done) | ((try simp at hp); first | (exfalso; omega) | skip))) | (apply awp_cond_any; rfl))
  (apply fin_ownr (rs := [.tmp 6]) [(1, 1)] 2; (case hr => (repeat (first | exact resok_nil | (apply resok_tmp; rfl) | (apply resok_cell; rfl; rfl; rfl; rfl; rfl)))); (case hL => rfl); (case hh => (apply hsok_dead 0; exact maps_low rfl; (repeat (first | exact hsok_nil | refine q_id ?_ | refine q_idx ?_ ?_))); all_goals trace_state); (case hi => first | exact (rfl : _ = ([] : List (Nat × Nat))) | exact (rfl : _ = [((0 : Nat), (0 : Nat))]) | exact (rfl : _ = [((0 : Nat), (0 : Nat)), (1, 1)])); (case hz => first | rfl | (simp [pack, AV.ren, AV.ren.renL, lookN, getT, enumT]; done) | (simp [pack, AV.ren, AV.ren.renL, lookN, getT, enumT, *]; done) | skip))
theorem f_insertAt (l : List Fol) (g : Str) (i : Nat) (hi : i < l.length) (hl : l.length ≤ 1000000) :
    ACall C1.P 123 [.os 0 0 l.length, .v (.int .i64 (i : Int)), .sl false [xrow g]] [.own false 4 (l.map Fol.row)] (.os 1 0 (l.length + 1)) [.dead, .own false 4 ((l.take i).map Fol.row ++ ([xrow g] ++ (l.drop i).map Fol.row))] := by
  have hpu : ∀ row, row ∈ (l.take i).map Fol.row ++ ([xrow g] ++ (l.drop i).map Fol.row) → AV.pure.pureL row = true := fun row hr => by
    rcases List.mem_append.1 hr with hr | hr
    · obtain ⟨x, _, rfl⟩ := List.mem_map.1 hr; rfl
    · rcases List.mem_append.1 hr with hr | hr
      · rw [List.mem_singleton.1 hr]; rfl
      · obtain ⟨x, _, rfl⟩ := List.mem_map.1 hr; rfl
  refine acall_intro (C := C1) Tryz.func123 rfl _ Tryz.ntmps123 (Nat.le_of_ble_eq_true rfl) _ Tryz.results123 1 rfl rfl ?_
  refine awp_cap 0 4 (l.map Fol.row) rfl fun cap hcap => ?_
  rw [List.length_map] at hcap
  have hRt : (l.map Fol.row ++ junks 4 (cap - (l.map Fol.row).length)).take l.length = l.map Fol.row := by
    rw [List.take_append_of_le_length (by simp), List.take_of_length_le (by simp)]
  have hRl : l.length ≤ (l.map Fol.row ++ junks 4 (cap - (l.map Fol.row).length)).length := by simp
  generalize l.map Fol.row ++ junks 4 (cap - (l.map Fol.row).length) = R at hRt hRl ⊢
  have hcut : (R.drop i).take (l.length - i) = (l.drop i).map Fol.row := by rw [← List.drop_take, hRt, List.map_drop]
  have hti : R.take i = (l.take i).map Fol.row := by rw [List.map_take, ← hRt, List.take_take, Nat.min_eq_left (by omega)]
  have hck : ∀ row, row ∈ (l.drop i).map Fol.row → row.length = 4 := fun row hr => by obtain ⟨x, _, rfl⟩ := List.mem_map.1 hr; rfl
  have hcl : ∀ row, row ∈ (l.drop i).map Fol.row → row.all cellLike = true := fun row hr => by obtain ⟨x, _, rfl⟩ := List.mem_map.1 hr; rfl
  repeat' (first | refine walk ?_ | (first | (refine o_slo ?_) | (apply opsx_val; apply ex_cap_os; (case hx => rfl); (case hn => rfl); (case hT => rfl); (case he => rfl); (case hN => exact nle rfl)) | (apply opsx_new; apply ex_append_make; (case hx => rfl); (case hT => rfl); (case he => rfl); (case hE => rfl); (case hn => rfl); (case hl => (first | omega | (simp; done) | (simp only [List.length_cons, List.length_nil, List.length_map]; omega) | (simp; omega))); (case hy => exact congrArg (fun z => AV.v (Value.int IntKind.i64 z)) (show ((l.length + 1 : Nat) : Int) - (i : Int) = ((l.length + 1 - i : Nat) : Int) from by omega)); (case hxT => rfl); (case hxk => rfl); (case hz => rfl); (case hs0 => exact Nat.ne_of_beq_eq_false rfl); (case hg => omega); (case hsz => (first | omega | (simp; done) | (simp only [List.length_cons, List.length_nil, List.length_map]; omega) | (simp; omega))); (case hlen => (first | omega | (simp; done) | (simp only [List.length_cons, List.length_nil, List.length_map]; omega) | (simp; omega))); (case hN => exact nle rfl)) | (apply opsx_val; apply ex_overlaps; exact Tryz.func150; (case hname => rfl); (case hb => rfl); (case hnx => rfl); (case hex => rfl); (case hT => rfl); (case he => rfl); (case hE => rfl); (case hx => rfl); (case hy => rfl); (case hm => rfl); (case hk => exact Nat.ne_of_beq_eq_false rfl); (case hrw => intro row hrow; rw [List.mem_singleton.1 hrow]; exact Nat.succ_ne_zero _); (case hN => exact nle rfl)) | (apply opsx_upd; apply ex_copy_os; (case hx => rfl); (case hT => rfl); (case he => rfl); (case hE => rfl); (case hn => rfl); (case hsrc => exact srcC_of (srcA_sl rfl rfl)); (case hmin => exact Nat.min_eq_left (by (first | omega | (simp; done) | (simp only [List.length_cons, List.length_nil, List.length_map]; omega) | (simp; omega)))); (case hfit => (first | omega | (simp; done) | (simp only [List.length_cons, List.length_nil, List.length_map]; omega) | (simp; omega))); (case hN => exact nle rfl)) | (apply opsx_upd; apply ex_copy_os; (case hx => rfl); (case hT => rfl); (case he => rfl); (case hE => rfl); (case hn => rfl); (case hsrc => exact srcC_cut (cnt := l.length - i) rfl (List.mem_singleton.2 rfl) rfl (by omega) (by omega) (by first | exact hcut | simpa using hcut) hck hcl); (case hmin => (first | exact (Nat.min_eq_left (by (first | omega | (simp; done) | (simp only [List.length_cons, List.length_nil, List.length_map]; omega) | (simp; omega)))).trans (by (first | omega | (simp; done) | (simp only [List.length_cons, List.length_nil, List.length_map]; omega) | (simp; omega))) | exact (Nat.min_eq_right (by (first | omega | (simp; done) | (simp only [List.length_cons, List.length_nil, List.length_map]; omega) | (simp; omega)))).trans (by (first | omega | (simp; done) | (simp only [List.length_cons, List.length_nil, List.length_map]; omega) | (simp; omega))))); (case hfit => (first | omega | (simp; done) | (simp only [List.length_cons, List.length_nil, List.length_map]; omega) | (simp; omega))); (case hN => exact nle rfl))) | ((first | (apply ops_split_t; rfl; rfl; exact nle rfl) | (apply ops_split_f; rfl; rfl; exact nle rfl) | (apply awp_cond; rfl)); all_goals (intro hc; have hp := hc; first | (simp at hp; done) | ((try simp at hp); first | (exfalso; omega) | skip))) | (apply awp_cond_any; rfl))
  all_goals try (exfalso; omega)
  · have hrow := ins_new R (junks 4 (l.length + 1 - i)) ((l.drop i).map Fol.row) (xrow g) (i := i) (a := 0 + i) (b := 0 + i + 1) (c := 0 + (i + 1)) (d := 0 + (i + 1) + ((l.drop i).map Fol.row).length) (by omega) (by simp; omega) (by omega) (by omega) (by omega) (by omega)
    (apply fin_ownr (rs := [.tmp 6]) [(1, 1)] 2; (case hr => (repeat (first | exact resok_nil | (apply resok_tmp; rfl) | (apply resok_cell; rfl; rfl; rfl; rfl; rfl)))); (case hL => rfl); (case hh => (apply hsok_dead 0; exact maps_low rfl; (repeat (first | exact hsok_nil | refine q_id ?_ | refine q_idx ?_ ?_))); all_goals (refine hrow.trans ?_; rw [hti])); (case hi => first | exact (rfl : _ = ([] : List (Nat × Nat))) | exact (rfl : _ = [((0 : Nat), (0 : Nat))]) | exact (rfl : _ = [((0 : Nat), (0 : Nat)), (1, 1)])); (case hz => first | rfl | (simp [pack, AV.ren, AV.ren.renL, lookN, getT, enumT]; done) | (simp [pack, AV.ren, AV.ren.renL, lookN, getT, enumT, *]; done) | (simp [pack, AV.ren, AV.ren.renL, lookN, getT, enumT]; omega)))
  · have hrow := ins_in R ((l.drop i).map Fol.row) (xrow g) (i := i) (a := 0 + 0 + (i + 1)) (b := 0 + 0 + (i + 1) + ((l.drop i).map Fol.row).length) (c := 0 + 0 + i) (d := 0 + 0 + i + 1) (m := l.length + 1) (by omega) (by omega) (by omega) (by omega) (by simp; omega)
    have hrow := hrow.trans (show _ = (l.take i).map Fol.row ++ ([xrow g] ++ (l.drop i).map Fol.row) from by rw [hti])
    apply fin_move (C := C1) 6 0 (l.length + 1)
    case hi => rfl
    case hn => rfl
    case hr => exact hrow
    case hnn => exact Nat.ne_of_beq_eq_false rfl
    case hnx => exact Nat.le_of_ble_eq_true rfl
    (apply fin_ownr (rs := [.tmp 6]) [(1, 1)] 2; (case hr => (repeat (first | exact resok_nil | (apply resok_tmp; rfl) | (apply resok_cell; rfl; rfl; rfl; rfl; rfl)))); (case hL => rfl); (case hh => (apply hsok_dead 0; exact maps_low rfl; (repeat (first | exact hsok_nil | refine q_id ?_ | refine q_idx ?_ ?_))); all_goals trace_state); (case hi => first | exact (rfl : _ = ([] : List (Nat × Nat))) | exact (rfl : _ = [((0 : Nat), (0 : Nat))]) | exact (rfl : _ = [((0 : Nat), (0 : Nat)), (1, 1)])); (case hz => first | rfl | (simp [pack, AV.ren, AV.ren.renL, lookN, getT, enumT]; done) | (simp [pack, AV.ren, AV.ren.renL, lookN, getT, enumT, *]; done) | (simp [pack, AV.ren, AV.ren.renL, lookN, getT, enumT]; omega)))
/-- Rows with a new folder. -/
def insR (l : List Fol) (f : Str) : List (List AV) := (l.take (posF l f)).map Fol.row ++ ([xrow f] ++ (l.drop (posF l f)).map Fol.row)
theorem insR_pure (l : List Fol) (f : Str) : ∀ row, row ∈ insR l f → AV.pure.pureL row = true := fun row hr => by
  unfold insR at hr
  rcases List.mem_append.1 hr with hr | hr
  · obtain ⟨x, _, rfl⟩ := List.mem_map.1 hr; rfl
  · rcases List.mem_append.1 hr with hr | hr
    · rw [List.mem_singleton.1 hr]; rfl
    · obtain ⟨x, _, rfl⟩ := List.mem_map.1 hr; rfl
theorem f_insert (l : List Fol) (f : Str) (hl : l.length ≤ 1000000) :
    ACall C1.P 123 [.os 0 0 l.length, .v (.int .i64 (posF l f)), .sl false [xrow f]] [.own false 4 (l.map Fol.row)] (.os 1 0 (l.length + 1)) [.dead, .own false 4 (insR l f)] := by
  have hp := posF_le l f
  unfold insR
  by_cases h : posF l f < l.length
  · exact f_insertAt l f _ h hl
  · have he : posF l f = l.length := by omega
    rw [he, List.take_length, List.drop_length]
    exact f_insertEnd l f hl
theorem rz_ins {h : Nat → HB} {n k : Nat} {l : List Fol} {f : Str} (hn : h n = .own false 4 (insR l f)) (hk : k = l.length + 1) : Rz h (.os n 0 k) (folAV (insF l f)) := by
  have hp := posF_le l f
  have hlen : (insR l f).length = l.length + 1 := by unfold insR; simp; omega
  refine rz_os hn (by omega) ?_
  rw [List.drop_zero, hk, ← hlen, List.take_length]
  show RzRows h _ ((l.take (posF l f) ++ ([(⟨f, newJ⟩ : Fol)] ++ l.drop (posF l f))).map Fol.row)
  rw [List.map_append, List.map_append]
  exact rzrows_app (rzrows_map fun _ => rfl) (rzrows_app (rzrows_cons (rzl_cons (rz_pure rfl) (rzl_cons rz_ex (rzl_cons (rz_pure rfl) (rzl_cons rz_ex rzl_nil)))) rzrows_nil) (rzrows_map fun _ => rfl))
theorem renl_pures {L : List (Nat × Nat)} {nh : Nat} : ∀ {cs : List AV}, AV.pure.pureL cs = true → RenVL L nh cs cs
  | [], _ => renl_nil
  | c :: cs, h => by
    have h2 : (c.pure && AV.pure.pureL cs) = true := h
    rw [Bool.and_eq_true] at h2
    exact renl_cons (ren_pure h2.1) (renl_pures h2.2)
theorem q_osrow {L : List (Nat × Nat)} {σ : St} {ex ex' : Bool} {cs : List AV} {l : List (Nat × HB)} {n n' k w : Nat} (hl : HsOk L 2 σ l) (hn : Maps L 2 n n' := by exact .inr (List.mem_cons_self ..)) (hx : getH σ.hs 0 = .own ex w [.os n 0 k :: cs] := by rfl) (hc : AV.pure.pureL cs = true := by rfl) (he : ex' = true → ex = true := by first | exact id | exact nofun) : HsOk L 2 σ ((0, .own ex' w [.os n' 0 k :: cs]) :: l) :=
  hsok_own (maps_low rfl) hx he (renrows_cons (renl_cons (ren_os hn) (renl_pures hc)) renrows_nil) hl
theorem s_create_no (h : Hub) (hb : HBig h) (r : Rqt) (rb : RBig r) (he : makeErr h.gras r.folder r.who = 0 → h.fols.length = 8) :
    ACall C2h.P 82 [.op 0 0 0] (HS h r) (resA (zAns 0) (if makeErr h.gras r.folder r.who = 0 then 2 else makeErr h.gras r.folder r.who)) (HS h r) := by
  have hm := h_make h.gras hb.gras r.folder r.who rb.folder rb.who
  have hml : (h.fols.map Fol.row).length = h.fols.length := List.length_map ..
  generalize setG h.gras r.folder r.who 3 = L at *
  generalize makeErr h.gras r.folder r.who = E at *
  by_cases h0 : E = 0
  · have h8 := he h0
    rw [if_pos h0] at hm ⊢
    subst h0
    refine acall_intro (C := C2h) Tryz.func82 rfl _ Tryz.ntmps82 (Nat.le_of_ble_eq_true rfl) _ Tryz.results82 2 rfl rfl ?_
    repeat' (first | refine walk ?_ | (first | (apply to_call Tryz.func60 rfl rfl; intro hIsFn; refine o_callp hIsFn (hm ..) ?_)) | ((first | (apply ops_split_t; rfl; rfl; exact nle rfl) | (apply ops_split_f; rfl; rfl; exact nle rfl) | (apply awp_cond; rfl)); all_goals (intro hc; have hp := hc; first | (simp at hp; done) | ((try simp at hp); first | (exfalso; omega) | skip))) | (apply awp_cond_any; rfl))
    all_goals try (exfalso; omega)
    (apply fin_ownr (rs := [.cell 2 46, .tmp 3]) [] 2; (case hr => (repeat (first | exact resok_nil | (apply resok_tmp; rfl) | (apply resok_cell; rfl; rfl; rfl; rfl; rfl)))); (case hL => rfl); (case hh => (repeat' (first | exact hsok_nil | refine q_srow ?_ | refine q_dead ?_ | refine q_r ?_ | refine q_idx ?_ ?_)); all_goals rfl); (case hi => exact rfl); (case hz => first | rfl | (simp [pack, AV.ren, AV.ren.renL, lookN, getT, enumT]; done) | (simp [pack, AV.ren, AV.ren.renL, lookN, getT, enumT, *]; done) | trace_state))
  · rw [if_neg h0] at hm ⊢
    refine acall_intro (C := C2h) Tryz.func82 rfl _ Tryz.ntmps82 (Nat.le_of_ble_eq_true rfl) _ Tryz.results82 2 rfl rfl ?_
    repeat' (first | refine walk ?_ | (first | (apply to_call Tryz.func60 rfl rfl; intro hIsFn; refine o_callp hIsFn (hm ..) ?_)) | ((first | (apply ops_split_t; rfl; rfl; exact nle rfl) | (apply ops_split_f; rfl; rfl; exact nle rfl) | (apply awp_cond; rfl)); all_goals (intro hc; have hp := hc; first | (simp at hp; done) | ((try simp at hp); first | (exfalso; omega) | skip))) | (apply awp_cond_any; rfl))
    all_goals try (exfalso; omega)
    (apply fin_ownr (rs := [.cell 2 46, .tmp 3]) [] 2; (case hr => (repeat (first | exact resok_nil | (apply resok_tmp; rfl) | (apply resok_cell; rfl; rfl; rfl; rfl; rfl)))); (case hL => rfl); (case hh => (repeat' (first | exact hsok_nil | refine q_srow ?_ | refine q_dead ?_ | refine q_r ?_ | refine q_idx ?_ ?_)); all_goals rfl); (case hi => exact rfl); (case hz => first | rfl | (simp [pack, AV.ren, AV.ren.renL, lookN, getT, enumT]; done) | (simp [pack, AV.ren, AV.ren.renL, lookN, getT, enumT, *]; done) | trace_state))
def creM (h : Hub) (r : Rqt) : Hub := { h with fols := insF h.fols r.folder, gras := setG h.gras r.folder r.who 3 }
theorem s_create (h : Hub) (hb : HBig h) (r : Rqt) (rb : RBig r) (hr : HRight h) (h0 : makeErr h.gras r.folder r.who = 0) (h8 : ¬ h.fols.length = 8) :
    ACall C2h.P 82 [.op 0 0 0] (HS h r) (resA (zAns 0) 0) [.own false 17 [srow 2 (creM h r) r], .dead, .own false 4 (insR h.fols r.folder)] := by
  have hm := h_make h.gras hb.gras r.folder r.who rb.folder rb.who
  rw [if_pos h0, h0] at hm
  have hml : (h.fols.map Fol.row).length = h.fols.length := List.length_map ..
  have hf := a_hfind h r.folder (by have := hr.len; omega) hr.rise
  rw [show hasF h.fols r.folder = false from by rw [hr.has]; exact (makeErr_get h0).2.2.2.1] at hf
  have hin := f_insert h.fols r.folder (by have := hr.len; omega)
  have hpu : ∀ row, row ∈ insR h.fols r.folder → AV.pure.pureL row = true := fun row hr => by
    unfold insR at hr
    rcases List.mem_append.1 hr with hr | hr
    · obtain ⟨x, _, rfl⟩ := List.mem_map.1 hr; rfl
    · rcases List.mem_append.1 hr with hr | hr
      · rw [List.mem_singleton.1 hr]; rfl
      · obtain ⟨x, _, rfl⟩ := List.mem_map.1 hr; rfl
  have hpl := posF_le h.fols r.folder
  have hsr : srow 2 (creM h r) r = .os 2 0 (h.fols.length + 1) :: graAV (setG h.gras r.folder r.who 3) :: (srow 2 h r).drop 2 := by
    show _ :: _ :: _ = _
    rw [show (creM h r).fols.length = h.fols.length + 1 from insF_len _ _]; rfl
  rw [hsr]
  clear hsr
  generalize setG h.gras r.folder r.who 3 = L at *
  generalize insR h.fols r.folder = R at *
  refine acall_intro (C := C2h) Tryz.func82 rfl _ Tryz.ntmps82 (Nat.le_of_ble_eq_true rfl) _ Tryz.results82 2 rfl rfl ?_
  repeat' (first | refine walk ?_ | (first | (apply to_call Tryz.func60 rfl rfl; intro hIsFn; refine o_callp hIsFn (hm ..) ?_) | (apply opsx_val; apply ex_call [1]; exact isFn_of Tryz.func58 rfl rfl; exact hf; (case hz => exact rzl_cons (rz_hub rfl) (rzl_cons (rz_pure rfl) rzl_nil)); (case hfl => rfl); (case hN => exact nle rfl)) | (refine o_fzl ?_) | (apply to_call Tryz.func123 rfl rfl; intro hIsFn; refine o_callg ([1]) 1 hIsFn (hin ..) ?_)) | ((first | (apply ops_split_t; rfl; rfl; exact nle rfl) | (apply ops_split_f; rfl; rfl; exact nle rfl) | (apply awp_cond; rfl)); all_goals (intro hc; have hp := hc; first | (simp at hp; done) | ((try simp at hp); first | (exfalso; omega) | skip))) | (apply awp_cond_any; rfl))
  all_goals try (exfalso; omega)
  apply fin_ownr (rs := [.cell 2 46, .tmp 3]) [(3, 2)] 3
  case hr => (repeat (first | exact resok_nil | (apply resok_tmp; rfl) | (apply resok_cell; rfl; rfl; rfl; rfl; rfl)))
  case hL => rfl
  case hh =>
    refine q_osrow ?_
    refine hsok_dead 1 (maps_low rfl) ?_
    refine q_r ?_
    exact hsok_nil
  case hi => exact rfl
  case hz => first | rfl | trace_state
end Go.Proofs.YtiljlcgmcmjcoaaGreatDoor
