import Derived.Test.YtiljlcgmcmjcoaaGreatDoorMz21
import Derived.Test.YtiljlcgmcmjcoaaGreatDoorMz12
import Derived.Test.YtiljlcgmcmjcoaaGreatDoorMz24
/- Hubs in the abstract layer, 3: own, cloned. -/
set_option linter.unusedSimpArgs false
set_option linter.unnecessarySimpa false
set_option linter.unusedVariables false
set_option maxHeartbeats 1000000
namespace Go.Proofs.YtiljlcgmcmjcoaaGreatDoor
open Go.Ab Go.RowKit
set_option maxRecDepth 10000
attribute [local irreducible] Awp Ops OpsX Wanted Red ExOk Go.Ab.Fin ACall Rz RzL RzRows Enters ResOk RenV RenVL ArgV ArgVL
theorem a_cloneGF (l : List Gra) (hl : l.length ≤ 1000000) : AFn C.P 79 [graAV l] (graAV l) :=
  afn_of_own (a_cloneG l hl) (rz_os_pure rfl (by simp) (pures_map fun _ => rfl))
theorem a_cloneSF (l : List Sess) (hl : l.length ≤ 1000000) : AFn C.P 80 [sessAV l] (sessAV l) :=
  afn_of_own (a_cloneS l hl) (rz_os_pure rfl (by simp) (pures_map fun _ => rfl))
theorem a_cloneFol (l : List Fol) (hl : l.length ≤ 1000000) :
    ACall C.P 78 [folAV l] [] (.os 0 0 l.length) [.own false 4 (l.map Fol.row)] := by
  by_cases h0 : l = []
  · subst h0
    refine acall_intro Tryz.func78 rfl _ Tryz.ntmps78 (Nat.le_of_ble_eq_true rfl) _ Tryz.results78 0 rfl rfl ?_
    repeat' (first | refine walk ?_ | (first | (refine o_fzl ?_) | (refine o_appn ?_) | (refine o_isnil ?_)) | ((first | (apply awp_cond; rfl)); all_goals (intro hc; have hp := hc; first | (simp at hp; done) | ((try simp at hp); first | (exfalso; omega) | skip))) | (apply awp_cond_any; rfl))
    · (refine fin_red (C := C) (red_nil (C := C) 2 4 rfl (Nat.zero_le _)) ?_)
      (apply fin_ownr (rs := [.tmp 2]) [(0, 0)] 1; (case hr => (repeat (first | exact resok_nil | (apply resok_tmp; rfl) | (apply resok_cell; rfl; rfl; rfl; rfl; rfl)))); (case hL => rfl); (case hh => (repeat (first | exact hsok_nil | refine q_id ?_ | refine q_idx ?_ ?_)); all_goals skip); (case hi => first | exact (rfl : _ = ([] : List (Nat × Nat))) | exact (rfl : _ = [((0 : Nat), (0 : Nat))]) | exact (rfl : _ = [((0 : Nat), (0 : Nat)), (1, 1)])); (case hz => first | rfl | (simp [pack, AV.ren, AV.ren.renL, lookN, getT, enumT]; done) | (simp [pack, AV.ren, AV.ren.renL, lookN, getT, enumT, *]; done) | skip))
    · (apply fin_ownr (rs := [.tmp 2]) [(0, 0)] 1; (case hr => (repeat (first | exact resok_nil | (apply resok_tmp; rfl) | (apply resok_cell; rfl; rfl; rfl; rfl; rfl)))); (case hL => rfl); (case hh => (repeat (first | exact hsok_nil | refine q_id ?_ | refine q_idx ?_ ?_)); all_goals skip); (case hi => first | exact (rfl : _ = ([] : List (Nat × Nat))) | exact (rfl : _ = [((0 : Nat), (0 : Nat))]) | exact (rfl : _ = [((0 : Nat), (0 : Nat)), (1, 1)])); (case hz => first | rfl | (simp [pack, AV.ren, AV.ren.renL, lookN, getT, enumT]; done) | (simp [pack, AV.ren, AV.ren.renL, lookN, getT, enumT, *]; done) | skip))
  · refine acall_intro Tryz.func78 rfl _ Tryz.ntmps78 (Nat.le_of_ble_eq_true rfl) _ Tryz.results78 0 rfl rfl ?_
    repeat' (first | refine walk ?_ | (first | (refine o_fzl ?_) | (refine o_appn ?_) | (apply opsx_val; apply ex_notnil; rfl; exact (fun h => h0 (List.map_eq_nil_iff.1 h)); rfl; rfl; (first | exact .inl rfl | exact .inr rfl); exact nle rfl)) | ((first | (apply awp_cond; rfl)); all_goals (intro hc; have hp := hc; first | (simp at hp; done) | ((try simp at hp); first | (exfalso; omega) | skip))) | (apply awp_cond_any; rfl))
    (apply fin_ownr (rs := [.tmp 2]) [(0, 0)] 1; (case hr => (repeat (first | exact resok_nil | (apply resok_tmp; rfl) | (apply resok_cell; rfl; rfl; rfl; rfl; rfl)))); (case hL => rfl); (case hh => (repeat (first | exact hsok_nil | refine q_id ?_ | refine q_idx ?_ ?_)); all_goals skip); (case hi => first | exact (rfl : _ = ([] : List (Nat × Nat))) | exact (rfl : _ = [((0 : Nat), (0 : Nat))]) | exact (rfl : _ = [((0 : Nat), (0 : Nat)), (1, 1)])); (case hz => first | rfl | (simp [pack, AV.ren, AV.ren.renL, lookN, getT, enumT]; done) | (simp [pack, AV.ren, AV.ren.renL, lookN, getT, enumT, *]; done) | skip))
theorem a_hown (j : Jou) (hl : j.coms.length ≤ 1000000) (hbl : j.base.length ≤ 1000000) (hc : ∀ c, c ∈ j.coms → c.chs.length ≤ 1000000) : AFn C.P 81 [.agg j.row] (.agg j.row) := by
  have h1 := a_cloneEF j.base hbl
  have h2 := a_cloneM j.coms hl
  obtain ⟨b, n, l⟩ := j
  dsimp only at *
  refine acall_intro Tryz.func81 rfl _ Tryz.ntmps81 (Nat.le_of_ble_eq_true rfl) _ Tryz.results81 0 rfl rfl ?_
  repeat' (first | refine walk ?_ | (first | (apply to_call Tryz.func101 rfl rfl; intro hIsFn; refine o_callp hIsFn (h1 ..) ?_) | (apply to_call Tryz.func121 rfl rfl; intro hIsFn; refine o_callo ([]) hIsFn (h2 ..) ?_)) | ((first | (apply awp_cond; rfl)); all_goals (intro hc; have hp := hc; first | (simp at hp; done) | ((try simp at hp); first | (exfalso; omega) | skip))) | (apply awp_cond_any; rfl))
  all_goals try (exfalso; omega)
  (refine Awp.red (red_ren (τ := ⟨[(1, .op 0 0 0), (2, .op 1 0 0), (14, .os 2 0 l.length), (15, .v (.int .i64 l.length)), (16, .v (.int .i64 ((0 : Nat) : Int)))], [(0, .own false 3 [[entAV b, .v (.int .i64 n), .os 2 0 l.length]]), (1, .own false 3 [[.sl true [], .v (.int .i64 0), .sl true []]]), (2, .own false 3 (l.map Com.row))], 3⟩) [(0, 0), (1, 1), (2, 2)] rfl ?_ ?_) ?_; rotate_left 2; rotate_left 1; (focus ((repeat (first | exact tsok_nil | refine p_pure ?_ | refine p_op8 ?_ | refine p_osr8 ?_ | refine p_osx8 ?_ ?_ | refine p_mp8 ?_ | refine p_eq ?_ ?_)); all_goals trace_state)); (focus ((repeat' (first | exact hsok_nil | refine q_pm8 ?_ ?_ ?_ | refine q_r8 ?_ | refine q_row8 ?_ ?_ | refine q_idx8 ?_ ?_ | exact renl_nil | apply renl_cons | exact ren_pure rfl | (apply ren_mp; (refine .inr ?_; (repeat (first | exact List.mem_cons_self .. | apply List.mem_cons_of_mem)))) | (apply ren_os; (refine .inr ?_; (repeat (first | exact List.mem_cons_self .. | apply List.mem_cons_of_mem)))))); all_goals trace_state)))
  refine awp_loop (fun n' σ => ∃ i : Nat, i ≤ l.length ∧ n' = l.length - i ∧ True ∧ σ = ⟨[(1, .op 0 0 0), (2, .op 1 0 0), (14, .os 2 0 l.length), (15, .v (.int .i64 l.length)), (16, .v (.int .i64 (i : Int)))], [(0, .own false 3 [[entAV b, .v (.int .i64 n), .os 2 0 l.length]]), (1, .own false 3 [[.sl true [], .v (.int .i64 0), .sl true []]]), (2, .own false 3 (l.map Com.row))], 3⟩) l.length ⟨0, Nat.zero_le _, rfl, trivial, rfl⟩ ?_
  rintro n' σ ⟨i, hi, rfl, -, rfl⟩
  by_cases hlt : i < l.length
  · have hr := getRow (f := Com.row) hlt
    have hcc := a_cloneCF l[i].chs (hc _ (List.getElem_mem _))
    have hss := set_same (f := Com.row) hlt
    repeat' (first | refine walk ?_ | (first | (refine o_ixo ?_) | (apply to_call Tryz.func122 rfl rfl; intro hIsFn; refine o_callp hIsFn (hcc ..) ?_)) | ((first | (apply awp_cond; rfl)); all_goals (intro hc; have hp := hc; first | (simp at hp; done) | ((try simp at hp); first | (exfalso; omega) | skip))) | (apply awp_cond_any; rfl))
    all_goals try (exfalso; omega)
    refine ⟨l.length - (i + 1), ⟨[(1, .op 0 0 0), (2, .op 1 0 0), (14, .os 2 0 l.length), (15, .v (.int .i64 l.length)), (16, .v (.int .i64 ((i + 1 : Nat) : Int)))], [(0, .own false 3 [[entAV b, .v (.int .i64 n), .os 2 0 l.length]]), (1, .own false 3 [[.sl true [], .v (.int .i64 0), .sl true []]]), (2, .own false 3 (l.map Com.row))], 3⟩, by omega, ?_, i + 1, by omega, rfl, trivial, rfl⟩; (skip); refine red_ren [(0, 0), (1, 1), (2, 2)] rfl ?_ ?_; (focus ((repeat (first | exact tsok_nil | refine p_pure ?_ | refine p_op8 ?_ | refine p_osr8 ?_ | refine p_osx8 ?_ ?_ | refine p_mp8 ?_ | refine p_eq ?_ ?_)); all_goals trace_state)); (focus ((repeat' (first | exact hsok_nil | refine q_pm8 ?_ ?_ ?_ | refine q_r8 ?_ | refine q_row8 ?_ ?_ | refine q_idx8 ?_ ?_ | exact renl_nil | apply renl_cons | exact ren_pure rfl | (apply ren_mp; (refine .inr ?_; (repeat (first | exact List.mem_cons_self .. | apply List.mem_cons_of_mem)))) | (apply ren_os; (refine .inr ?_; (repeat (first | exact List.mem_cons_self .. | apply List.mem_cons_of_mem)))))); all_goals (first | exact hss | trace_state)))
  obtain rfl : i = l.length := by omega
  repeat' (first | refine walk ?_ | fail | ((first | (apply awp_cond; rfl)); all_goals (intro hc; have hp := hc; first | (simp at hp; done) | ((try simp at hp); first | (exfalso; omega) | skip))) | (apply awp_cond_any; rfl))
  all_goals try (exfalso; omega)
  (refine f_pure (rs := [.cell 2 60]) ?_; (repeat' (first | exact rzl_nil | apply rzl_cons | exact rz_pure rfl | exact rz_ex | exact z_os | apply rz_agg | apply rz_tup | apply rz_clo | apply rz_int | apply rz_bool | apply rz_str | refine z_eq ?_ | apply rz_sl)); all_goals trace_state)
/-- A hub whose folders are memory of one's own. -/
def hubOS (h : Hub) (n : Nat) : AV := .agg [.os n 0 h.fols.length, graAV h.gras, .sl false (h.ups.sess.map Sess.row), .v (.int .i64 h.ups.next), .v (.int .i64 h.ups.lasts), .v (.int .i64 h.ups.room), .v (.int .i64 h.now)]
theorem HRight.small {h : Hub} (hr : HRight h) : h.gras.length ≤ 60 ∧ h.ups.sess.length ≤ 20 ∧ ∀ s, s ∈ h.fols → s.jou.coms.length ≤ 30 ∧ s.jou.base.length ≤ 60 ∧ ∀ c, c ∈ s.jou.coms → c.chs.length ≤ 20 :=
  ⟨(graErr_all hr.gra).1, (upErr_get hr.ups).2.1, fun s hs => by
    have hJ := (hr.each s hs).2
    exact ⟨hJ.len, hJ.base.len, fun c hc => comsR_few hJ.base hJ.run c hc⟩⟩
theorem a_hclonedO (h : Hub) (hr : HRight h) : ACall C.P 44 [hubAV h] [] (hubOS h 0) [.own false 4 (h.fols.map Fol.row)] := by
  have hl := hr.len
  obtain ⟨s1, s2, s3⟩ := hr.small
  have h1 := a_cloneFol h.fols (by omega)
  have h2 := a_cloneGF h.gras (by omega)
  have h3 := a_cloneSF h.ups.sess (by omega)
  have ho : ∀ s, s ∈ h.fols → AFn C.P 81 [.agg s.jou.row] (.agg s.jou.row) := fun s hs => by
    obtain ⟨a, b, c⟩ := s3 s hs
    exact a_hown s.jou (by omega) (by omega) (fun x hx => by have := c x hx; omega)
  clear s3 hr
  obtain ⟨F, G, ⟨S, nx, la, ro⟩, now⟩ := h
  dsimp only at *
  refine acall_intro Tryz.func44 rfl _ Tryz.ntmps44 (Nat.le_of_ble_eq_true rfl) _ Tryz.results44 0 rfl rfl ?_
  repeat' (first | refine walk ?_ | (first | (apply to_call Tryz.func78 rfl rfl; intro hIsFn; refine o_callo ([]) hIsFn (h1 ..) ?_) | (apply to_call Tryz.func79 rfl rfl; intro hIsFn; refine o_callp hIsFn (h2 ..) ?_) | (apply to_call Tryz.func80 rfl rfl; intro hIsFn; refine o_callp hIsFn (h3 ..) ?_)) | ((first | (apply awp_cond; rfl)); all_goals (intro hc; have hp := hc; first | (simp at hp; done) | ((try simp at hp); first | (exfalso; omega) | skip))) | (apply awp_cond_any; rfl))
  all_goals try (exfalso; omega)
  (refine Awp.red (red_ren (τ := ⟨[(1, .op 0 0 0), (2, .op 1 0 0), (20, .os 2 0 F.length), (21, .v (.int .i64 F.length)), (22, .v (.int .i64 ((0 : Nat) : Int)))], [(0, .own false 7 [[.os 2 0 F.length, graAV G, sessAV S, .v (.int .i64 nx), .v (.int .i64 la), .v (.int .i64 ro), .v (.int .i64 now)]]), (1, .own false 7 [[.sl true [], .sl true [], .sl true [], .v (.int .i64 0), .v (.int .i64 0), .v (.int .i64 0), .v (.int .i64 0)]]), (2, .own false 4 (F.map Fol.row))], 3⟩) [(0, 0), (1, 1), (2, 2)] rfl ?_ ?_) ?_; rotate_left 2; rotate_left 1; (focus ((repeat (first | exact tsok_nil | refine p_pure ?_ | refine p_op8 ?_ | refine p_osr8 ?_ | refine p_osx8 ?_ ?_ | refine p_mp8 ?_ | refine p_eq ?_ ?_)); all_goals trace_state)); (focus ((repeat' (first | exact hsok_nil | refine q_pm8 ?_ ?_ ?_ | refine q_r8 ?_ | refine q_row8 ?_ ?_ | refine q_idx8 ?_ ?_ | exact renl_nil | apply renl_cons | exact ren_pure rfl | (apply ren_mp; (refine .inr ?_; (repeat (first | exact List.mem_cons_self .. | apply List.mem_cons_of_mem)))) | (apply ren_os; (refine .inr ?_; (repeat (first | exact List.mem_cons_self .. | apply List.mem_cons_of_mem)))))); all_goals trace_state)))
  refine awp_loop (fun n' σ => ∃ i : Nat, i ≤ F.length ∧ n' = F.length - i ∧ True ∧ σ = ⟨[(1, .op 0 0 0), (2, .op 1 0 0), (20, .os 2 0 F.length), (21, .v (.int .i64 F.length)), (22, .v (.int .i64 (i : Int)))], [(0, .own false 7 [[.os 2 0 F.length, graAV G, sessAV S, .v (.int .i64 nx), .v (.int .i64 la), .v (.int .i64 ro), .v (.int .i64 now)]]), (1, .own false 7 [[.sl true [], .sl true [], .sl true [], .v (.int .i64 0), .v (.int .i64 0), .v (.int .i64 0), .v (.int .i64 0)]]), (2, .own false 4 (F.map Fol.row))], 3⟩) F.length ⟨0, Nat.zero_le _, rfl, trivial, rfl⟩ ?_
  rintro n' σ ⟨i, hi, rfl, -, rfl⟩
  by_cases hlt : i < F.length
  · have hr := getRow (f := Fol.row) hlt
    have hoi := ho F[i] (List.getElem_mem _)
    have hss := set_same (f := Fol.row) hlt
    clear ho h1 h2 h3
    repeat' (first | refine walk ?_ | (first | (refine o_ixo ?_) | (apply to_call Tryz.func81 rfl rfl; intro hIsFn; refine o_callp hIsFn (hoi ..) ?_)) | ((first | (apply awp_cond; rfl)); all_goals (intro hc; have hp := hc; first | (simp at hp; done) | ((try simp at hp); first | (exfalso; omega) | skip))) | (apply awp_cond_any; rfl))
    all_goals try (exfalso; omega)
    refine ⟨F.length - (i + 1), ⟨[(1, .op 0 0 0), (2, .op 1 0 0), (20, .os 2 0 F.length), (21, .v (.int .i64 F.length)), (22, .v (.int .i64 ((i + 1 : Nat) : Int)))], [(0, .own false 7 [[.os 2 0 F.length, graAV G, sessAV S, .v (.int .i64 nx), .v (.int .i64 la), .v (.int .i64 ro), .v (.int .i64 now)]]), (1, .own false 7 [[.sl true [], .sl true [], .sl true [], .v (.int .i64 0), .v (.int .i64 0), .v (.int .i64 0), .v (.int .i64 0)]]), (2, .own false 4 (F.map Fol.row))], 3⟩, by omega, ?_, i + 1, by omega, rfl, trivial, rfl⟩; (skip); refine red_ren [(0, 0), (1, 1), (2, 2)] rfl ?_ ?_; (focus ((repeat (first | exact tsok_nil | refine p_pure ?_ | refine p_op8 ?_ | refine p_osr8 ?_ | refine p_osx8 ?_ ?_ | refine p_mp8 ?_ | refine p_eq ?_ ?_)); all_goals trace_state)); (focus ((repeat' (first | exact hsok_nil | refine q_pm8 ?_ ?_ ?_ | refine q_r8 ?_ | refine q_row8 ?_ ?_ | refine q_idx8 ?_ ?_ | exact renl_nil | apply renl_cons | exact ren_pure rfl | (apply ren_mp; (refine .inr ?_; (repeat (first | exact List.mem_cons_self .. | apply List.mem_cons_of_mem)))) | (apply ren_os; (refine .inr ?_; (repeat (first | exact List.mem_cons_self .. | apply List.mem_cons_of_mem)))))); all_goals (first | exact hss | trace_state)))
  obtain rfl : i = F.length := by omega
  clear ho h1 h2 h3
  repeat' (first | refine walk ?_ | fail | ((first | (apply awp_cond; rfl)); all_goals (intro hc; have hp := hc; first | (simp at hp; done) | ((try simp at hp); first | (exfalso; omega) | skip))) | (apply awp_cond_any; rfl))
  all_goals try (exfalso; omega)
  (apply fin_ownr (rs := [.cell 2 28]) [(2, 0)] 1; (case hr => (repeat (first | exact resok_nil | (apply resok_tmp; rfl) | (apply resok_cell; rfl; rfl; rfl; rfl; rfl)))); (case hL => rfl); (case hh => (repeat (first | exact hsok_nil | refine q_id ?_ | refine q_idx ?_ ?_)); all_goals trace_state); (case hi => first | exact (rfl : _ = ([] : List (Nat × Nat))) | exact (rfl : _ = [((0 : Nat), (0 : Nat))]) | exact (rfl : _ = [((0 : Nat), (0 : Nat)), (1, 1)])); (case hz => first | rfl | (simp [pack, AV.ren, AV.ren.renL, lookN, getT, enumT]; done) | (simp [pack, AV.ren, AV.ren.renL, lookN, getT, enumT, *]; done) | trace_state))
theorem rz_hub {h : Hub} {f : Nat → HB} {n : Nat} (hn : f n = .own false 4 (h.fols.map Fol.row)) : Rz f (hubOS h n) (hubAV h) :=
  rz_agg (rzl_cons (rz_os_pure hn (by simp) (pures_map fun _ => rfl)) (rzl_cons (rz_pure rfl) (rzl_cons (rz_pure rfl) (rzl_cons (rz_pure rfl) (rzl_cons (rz_pure rfl) (rzl_cons (rz_pure rfl) (rzl_cons (rz_pure rfl) rzl_nil)))))))
theorem a_hcloned (h : Hub) (hr : HRight h) : AFn C.P 44 [hubAV h] (hubAV h) := afn_of_own (a_hclonedO h hr) (rz_hub rfl)
end Go.Proofs.YtiljlcgmcmjcoaaGreatDoor
